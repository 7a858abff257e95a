/-
  Contract of the document: Breaks.
-/
import Derived.Test.YtcjcpkjdhagofaaRg
namespace Go.Proofs.Ytcjcpkjdhagofaa
open Go.RowKit Go.Own Go.Own.Cm Go.Shelf
attribute [local go_sem] Oper.semAt_some
theorem FtPost.form {s : SchV} {nm mt : ByteArray} {w w' : World} {e : Ending} (h : FtPost s nm mt w e w') : ∃ (d1 d2 d3 : ByteArray) (d4 : Int) (ib : Bool), e = .returned (.tuple #[.agg #[.string d1, .string d2, .string d3, .int .i64 d4], .bool ib]) ∧ Below w.heap.size w w' ∧ ((ib = false ∧ mthAt s nm mt = none) ∨ (ib = true ∧ mthAt s nm mt = some ⟨d1, d2, d3, d4⟩)) := by
  obtain ⟨hb, ⟨h1, h2⟩ | ⟨⟨d1, d2, d3, d4⟩, h1, h2⟩⟩ := h
  · exact ⟨_, _, _, _, false, h2, hb, .inl ⟨rfl, h1⟩⟩
  · exact ⟨d1, d2, d3, d4, true, h2, hb, .inr ⟨rfl, h1⟩⟩
set_option maxHeartbeats 40000000 in
set_option maxRecDepth 100000 in
theorem breaksR_any (a b : SchV) (B : Nat) (w : World) (hra : SchR w B a) (hza : SchZ a) (hrb : SchR w B b) (hzb : SchZ b) (hB : B ≤ w.heap.size) :
    Calls Try.prog 6 #[.agg a.cells, .agg b.cells] w (NewR w (breaksOf a b)) := by
  have HLM : Hid ((a.ms.flatMap (msgBrk b)).length ≤ 1600) := Lib.hid (by have h := msgs_le b hra hza a.ms.length; rwa [List.take_length] at h)
  have HLE := Lib.hid (enms_le b hra hza)
  have HLS := Lib.hid (srvs_le b hra hza)
  have HMS := Lib.hid fun (W : World) (h : Below w.heap.size w W) => messagesR_any a b B W (hra.below (h.mono hB)) hza (hrb.below (h.mono hB)) hzb (Nat.le_trans hB h.size)
  have HFE := Lib.hid fun (nm : ByteArray) (W : World) (h : Below w.heap.size w W) => findEnumR_any b nm B W (hrb.below (h.mono hB)) hzb (Nat.le_trans hB h.size)
  have HFT := Lib.hid fun (nm mt : ByteArray) (W : World) (h : Below w.heap.size w W) => findMethodR_any b nm mt B W (hrb.below (h.mono hB)) hzb (Nat.le_trans hB h.size)
  have HRA := Lib.hid hra
  have HRB := Lib.hid hrb
  have HZA := Lib.hid hza
  have HZB := Lib.hid hzb
  have HBs := Lib.hid hB
  have he20 := hza.e
  have he20b := hzb.e
  have hs20 := hza.u
  have hs20b := hzb.u
  have HBO : Hid (breaksOf a b = a.ms.flatMap (msgBrk b) ++ (a.es.flatMap (enmBrk b) ++ a.ss.flatMap (srvBrk b))) := Lib.hid rfl
  have HQE : Hid (∀ m, enmBrk b m = match b.es.find? (fun n => sameT n.nm m.nm) with | none => [⟨m.nm, empT, 0, 1, true⟩] | some n => m.vs.flatMap (evBrk m.nm n.vs)) := Lib.hid fun _ => rfl
  have HQS : Hid (∀ m, srvBrk b m = if b.ss.any (fun y => sameT y.nm m.nm) then m.ts.flatMap (mthBrk b m.nm) else bothL ⟨m.nm, empT, 0, 1, false⟩) := Lib.hid fun _ => rfl
  generalize breaksOf a b = bo at *
  generalize hqe : enmBrk b = qe at *
  generalize hqs : srvBrk b = qs at *
  generalize a.ms.flatMap (msgBrk b) = L0 at *
  clear hra hza hrb hzb hB hqe hqs
  obtain ⟨mA, mn, mc, ms, eA, en, ec, es, sA, sn, sc, ss⟩ := a
  obtain ⟨mA', mn', mc', ms', eA', en', ec', es', sA', sn', sc', ss'⟩ := b
  simp only [SchV.cells] at HLM HLE HLS HMS HFE HFT he20 he20b hs20 hs20b HBO HQE HQS ⊢
  have W1 : Below w.heap.size w ((w.alloc (.cells #[.slice mA mn mc, .slice eA en ec, .slice sA sn sc] 26)).alloc (.cells #[.slice mA' mn' mc', .slice eA' en' ec', .slice sA' sn' sc'] 26)) := ((Below.refl w.heap.size w).alloc (Nat.le_refl _) _).alloc (by simp) _
  have W2 : Blk ((w.alloc (.cells #[.slice mA mn mc, .slice eA en ec, .slice sA sn sc] 26)).alloc (.cells #[.slice mA' mn' mc', .slice eA' en' ec', .slice sA' sn' sc'] 26)) w.heap.size 26 #[.slice mA mn mc, .slice eA en ec, .slice sA sn sc] := (Blk.new w 26 #[.slice mA mn mc, .slice eA en ec, .slice sA sn sc]).alloc _
  have W3 : Blk ((w.alloc (.cells #[.slice mA mn mc, .slice eA en ec, .slice sA sn sc] 26)).alloc (.cells #[.slice mA' mn' mc', .slice eA' en' ec', .slice sA' sn' sc'] 26)) (w.heap.size + 1) 26 #[.slice mA' mn' mc', .slice eA' en' ec', .slice sA' sn' sc'] := (by
    simpa using Blk.new (w.alloc (.cells #[.slice mA mn mc, .slice eA en ec, .slice sA sn sc] 26)) 26 #[.slice mA' mn' mc', .slice eA' en' ec', .slice sA' sn' sc'])
  have HMC := Lib.hid (HMS.out _ W1)
  have HB3 := Lib.hid W1
  have HBA := Lib.hid W2
  have HBB := Lib.hid W3
  clear W1 W2 W3
  go_enter Try.func6, Try.ntmps6
  go_wp2_with (with_reducible refine HMC.out.mono ?_
               rintro e w4 ⟨v4, rfl, hv4⟩
               have HV4 := Lib.hid hv4.out.1
               have HB4 := Lib.hid (HB3.out.trans (hv4.out.2.mono HB3.out.size))
               have bA4 := HBA.out.below hv4.out.2 HBA.out.lt
               have bB4 := HBB.out.below hv4.out.2 HBB.out.lt
               have s20 := bA4.cell 0
               have s21 := bA4.cell 1
               have s22 := bA4.cell 2
               have s30 := bB4.cell 0
               have s31 := bB4.cell 1
               have s32 := bB4.cell 2
               have lA4 := bA4.lt
               have lB4 := bB4.lt
               have lw4 := hv4.out.2.size
               simp only [List.getElem?_toArray, List.getElem?_cons_zero, List.getElem?_cons_succ] at s20 s21 s22 s30 s31 s32
               have HA4 := Lib.hid bA4
               have HB4' := Lib.hid bB4
               clear bA4 bB4 hv4)
  generalize hbase : ((w.alloc (.cells #[.slice mA mn mc, .slice eA en ec, .slice sA sn sc] 26)).alloc (.cells #[.slice mA' mn' mc', .slice eA' en' ec', .slice sA' sn' sc'] 26)).heap.size = base at *
  have hbs : w.heap.size + 2 ≤ base := by rw [← hbase]; simp
  clear hbase HMC HB3 HBA HBB HMS
  go_loopw [6, 5] (fun i z wr => ∃ (k : Nat) (v : Value), k ≤ en ∧ i = .int .i64 (k : Int) ∧ v = z ∧ Hid (RJ base w4 v4 (L0 ++ (es.take k).flatMap qe) wr v)) (fun i _ _ => en - (intOf i).toNat)
  case atStart => exact ⟨0, _, Nat.zero_le _, rfl, rfl, Lib.hid ⟨by simpa using HV4.out, GrSt.refl _ _⟩⟩
  case round =>
    obtain ⟨k, z1, hk, rfl, rfl, hh⟩ := hrel
    have hu : Below base w4 wr := hh.out.st.under (fun g e => (HV4.out.lt g e).1) lw4
    have hb1 : Below w.heap.size w wr := HB4.out.trans (hu.mono (by omega))
    have hbA := HA4.out.below hu (by omega)
    have hbB := HB4'.out.below hu (by omega)
    have s20 := hbA.cell 0
    have s21 := hbA.cell 1
    have s22 := hbA.cell 2
    have s30 := hbB.cell 0
    have s31 := hbB.cell 1
    have s32 := hbB.cell 2
    have lA := hbA.lt
    have lB := hbB.lt
    simp only [List.getElem?_toArray, List.getElem?_cons_zero, List.getElem?_cons_succ] at s20 s21 s22 s30 s31 s32
    have HU := Lib.hid hu
    have HB1 := Lib.hid hb1
    have hszb : base ≤ wr.heap.size := Nat.le_trans lw4 hu.size
    clear hu hb1 hbA hbB
    by_cases hlt : k < en
    · obtain ⟨ad, x, e, hx, a0, a1⟩ := (HRA.out.below (HB1.out.mono HBs.out)).e.atE hlt
      have e : eA = some ad := e
      subst e
      have HX := Lib.hid (show es[k]? = some x from hx)
      have HFTe := Lib.hid (flat_take qe es k x hx)
      have HQx := Lib.hid (HQE.out x)
      have i0 : (0 : Int) ≤ (k : Int) := by omega
      have i1 : (k : Int) < (en : Int) := by omega
      have hl1 : (L0 ++ (es.take k).flatMap qe).length ≤ 3200 := by
        have := HLM.out; have := HLE.out k; rw [List.length_append]; omega
      generalize hL1 : L0 ++ (es.take k).flatMap qe = L1 at *
      have HL1 := Lib.hid hl1
      have HLQ := Lib.hid hL1
      have HFx := Lib.hid (HRA.out.v x (List.mem_of_getElem? hx))
      have hfn : x.vn ≤ 40 := HZA.out.v x (List.mem_of_getElem? hx)
      obtain ⟨nm, xA, xn, xc, xs⟩ := x
      simp only at a0 a1 HQx HFx hfn
      have hb2 : Below wr.heap.size wr (wr.alloc (.cells #[.string nm, .slice xA xn xc] 54)) := (Below.refl _ _).alloc (Nat.le_refl _) _
      have HB2 := Lib.hid hb2
      have HM2 := Lib.hid (Blk.new wr 54 #[.string nm, .slice xA xn xc])
      have HCA := Lib.hid (HFE.out nm (wr.alloc (.cells #[.string nm, .slice xA xn xc] 54)) (HB1.out.trans (hb2.mono HB1.out.size)))
      clear hx hl1 hL1 hb2
      go_wp2_with (first
        | (at_builtin
           refine wpList_app_e elBrkR _ rfl (.tmp 41) (.tmp 45) rfl base z1 L1 rfl HO8.out (w5.heap.size + 1) (some ⟨w5.heap.size, 0, none⟩) 1 1 [⟨nm, empT, 0, 1, true⟩] rfl HR8.out (by have := HL1.out; omega) (by have := HB5.out.size; simp; omega) ?_
           intro A9 c9 w9 hown hg hv
           generalize Value.slice A9 (L1.length + 1) c9 = v9 at *
           have HJ9 := Lib.hid (show RJ base w4 v4 (L0 ++ (es.take (k + 1)).flatMap qe) w9 v9 from ⟨by
             rw [HFTe.out, ← List.append_assoc, HLQ.out, HQx.out, HF5.out]
             exact hown, HW5.out.st.trans ((GrSt.of_below ((Below.refl _ _).alloc (Nat.le_refl _) (.cells #[.string nm, .string ⟨#[]⟩, .int .i64 0, .int .i64 1, .bool true] 32))).trans (GrSt.of_grown hg hv))⟩)
           clear hown hg hv)
        | (with_reducible refine HCA.out.mono ?_
           rintro e w5 ⟨g5, hc5⟩
           have HB5 := Lib.hid (HB2.out.trans (g5.mono HB2.out.size))
           have hm5 := HM2.out.below g5 HM2.out.lt
           have r0 := hm5.cell 0
           have r1 := hm5.cell 1
           have lr5 := hm5.lt
           have HM5 := Lib.hid hm5
           simp only [List.getElem?_toArray, List.getElem?_cons_zero, List.getElem?_cons_succ] at r0 r1
           have HW5 := Lib.hid (hh.out.below HB5.out)
           have HO8 := Lib.hid (HW5.out.own.below ((Below.refl _ _).alloc (Nat.le_refl _) (.cells #[.string nm, .string ⟨#[]⟩, .int .i64 0, .int .i64 1, .bool true] 32)))
           have HR8 : Hid (RS BrkV.cells 5 (w5.alloc (.cells #[.string nm, .string ⟨#[]⟩, .int .i64 0, .int .i64 1, .bool true] 32)) (w5.heap.size + 1) (some ⟨w5.heap.size, 0, none⟩) 1 [⟨nm, empT, 0, 1, true⟩]) := Lib.hid (by
             have h := (Ew.lit (k := 5) BrkV.cells 32 (fun _ => rfl) w5 [⟨nm, empT, 0, 1, true⟩] (by simp)).rs (fun _ => rfl) (by omega)
             have h2 : RS BrkV.cells 5 (w5.alloc (.cells #[.string nm, .string ⟨#[]⟩, .int .i64 0, .int .i64 1, .bool true] 32)) _ (some ⟨w5.heap.size, 0, none⟩) 1 [⟨nm, empT, 0, 1, true⟩] := h
             simpa using h2)
           clear g5 hm5
           rcases hc5 with ⟨hf5, rfl⟩ | ⟨kk, n, hkk, hf5, rfl⟩
           focus
             have HF5 := Lib.hid hf5
             clear hf5
           rotate_left
           focus
             have HF5 := Lib.hid hf5
             have HKK := Lib.hid hkk
             have hkn : kk < en' := by
               have h := (List.getElem?_eq_some_iff.1 hkk).1
               rw [HRB.out.e.1] at h
               exact h
             have hk0 : ¬ ((kk : Int) < 0) := by omega
             clear hf5 hkk HO8 HR8
           rotate_right))
      · exact ⟨⟨k + 1, _, by omega, by simp, rfl, HJ9⟩, by simp [intOf]; omega⟩
      · have HQ2 := Lib.hid HQx.out
        rw [HF5.out] at HQ2
        have HFN := Lib.hid (HRB.out.v n (List.mem_of_getElem? HKK.out))
        have hgn : n.vn ≤ 40 := HZB.out.v n (List.mem_of_getElem? HKK.out)
        obtain ⟨nn, nA, gn, gc, gs⟩ := n
        simp only at HQ2 HFN hgn
        have HB5w := Lib.hid (HB1.out.trans (HB5.out.mono HB1.out.size))
        have l5 := HB5.out.size
        have HZ1 : Hid (z1.ownBlock ≠ some wr.heap.size) := Lib.hid (fun e => by have := (hh.out.own.lt _ e).2; omega)
        have hsz5 : base ≤ w5.heap.size := Nat.le_trans hszb l5
        have HB35 := Lib.hid (HB4'.out.below (HU.out.trans (HB5.out.mono hszb)) (by omega))
        clear HQx HF5 hh
        generalize hq7 : wr.heap.size = q7 at *
        go_loopw [9, 5] (fun i z wq => ∃ (j : Nat) (v : Value), j ≤ xn ∧ i = .int .i64 (j : Int) ∧ v = z ∧ Hid (RJ base w5 z1 (L1 ++ (xs.take j).flatMap (evBrk nm gs)) wq v)) (fun i _ _ => xn - (intOf i).toNat)
        case atStart => exact ⟨0, _, Nat.zero_le _, rfl, rfl, Lib.hid ⟨by simpa using HW5.out.own, GrSt.refl _ _⟩⟩
        case round =>
          obtain ⟨j, v1, hj, rfl, rfl, hq⟩ := hrel
          have hu2 : Below base w5 wr := hq.out.st.under (fun g e => (HW5.out.own.lt g e).1) hsz5
          have hb6 : Below w.heap.size w wr := HB5w.out.trans (hu2.mono (by omega))
          have hm6 := hq.out.st.blk HM5.out HZ1.out
          have r0 := hm6.cell 0
          have r1 := hm6.cell 1
          have lr6 := hm6.lt
          have hB6 := HB35.out.below hu2 (by omega)
          have s31 := hB6.cell 1
          have lB6 := hB6.lt
          simp only [List.getElem?_toArray, List.getElem?_cons_zero, List.getElem?_cons_succ] at r0 r1 s31
          have HB6 := Lib.hid hb6
          have HM6 := Lib.hid hm6
          have HBB6 := Lib.hid hB6
          clear hu2 hb6 hm6 hB6
          by_cases hjl : j < xn
          · obtain ⟨ad2, y, rfl, hy, b0, b1⟩ := (HFx.out.below (HB6.out.mono HBs.out)).atV hjl
            have HFT2 := Lib.hid (flat_take (evBrk nm gs) xs j y hy)
            have j0 : (0 : Int) ≤ (j : Int) := by omega
            have j1 : (j : Int) < (xn : Int) := by omega
            have kk0 : (0 : Int) ≤ (kk : Int) := by omega
            have kk1 : (kk : Int) < (en' : Int) := by omega
            have hl2 : (L1 ++ (xs.take j).flatMap (evBrk nm gs)).length ≤ 10000 := by
              have := HL1.out
              have := flat_le (evBrk nm gs) (ev_len nm gs) (xs.take j)
              rw [List.length_append]
              rw [List.length_take] at this
              omega
            generalize hL2 : L1 ++ (xs.take j).flatMap (evBrk nm gs) = L2 at hq hl2
            have HL2 := Lib.hid hl2
            have HLE2 := Lib.hid hL2
            obtain ⟨ad3, n3, e3, hn3, d0, d1⟩ := (HRB.out.below (HB6.out.mono HBs.out)).e.atE hkn
            have e3 : eA' = some ad3 := e3
            subst e3
            have en3 : n3 = ⟨nn, nA, gn, gc, gs⟩ := Option.some.inj (hn3.symm.trans HKK.out)
            subst en3
            simp only at d0 d1
            have HY := Lib.hid hy
            obtain ⟨xen, xev⟩ := y
            simp only at b0 b1
            clear hn3 hy hl2 hL2
            go_wp2
            obtain ⟨wm, rfl⟩ : ∃ wm, wm = wr := ⟨_, rfl⟩
            go_loopw [11, 10] (fun i z wq => ∃ l : Nat, l ≤ gn ∧ i = .int .i64 (l : Int) ∧ z = .bool ((gs.take l).any (fun y => sameV y ⟨xen, xev⟩)) ∧ Hid (Below wm.heap.size wm wq)) (fun i _ _ => gn - (intOf i).toNat)
            case atStart => exact ⟨0, Nat.zero_le _, rfl, by simp, Lib.hid (Below.refl _ _)⟩
            case round =>
              obtain ⟨l, hl, rfl, rfl, hp⟩ := hrel
              have hmq := HM6.out.below hp.out HM6.out.lt
              have hBq := HBB6.out.below hp.out HBB6.out.lt
              have hbq := HB6.out.trans (hp.out.mono HB6.out.size)
              have r0 := hmq.cell 0
              have r1 := hmq.cell 1
              have s31 := hBq.cell 1
              have lr7 := hmq.lt
              have lB7 := hBq.lt
              simp only [List.getElem?_toArray, List.getElem?_cons_zero, List.getElem?_cons_succ] at r0 r1 s31
              obtain ⟨ad3', n3, e3, hn3, d0, d1⟩ := (HRB.out.below (hbq.mono HBs.out)).e.atE hkn
              have e3 : ad3 = ad3' := Option.some.inj e3
              subst e3
              have en3 : n3 = ⟨nn, nA, gn, gc, gs⟩ := Option.some.inj (hn3.symm.trans HKK.out)
              subst en3
              obtain ⟨ad2', n4, e4, hn4, b0, b1⟩ := (HFx.out.below (hbq.mono HBs.out)).atV hjl
              have e4 : ad2 = ad2' := Option.some.inj e4
              subst e4
              have en4 : n4 = ⟨xen, xev⟩ := Option.some.inj (hn4.symm.trans HY.out)
              subst en4
              simp only at d0 d1 b0 b1
              clear hn3 hn4
              have HBq := Lib.hid hbq
              have HMq := Lib.hid hmq
              have HBBq := Lib.hid hBq
              clear hmq hBq hbq
              by_cases hll : l < gn
              · obtain ⟨ag, y, rfl, hy, e0, e1⟩ := (HFN.out.below (HBq.out.mono HBs.out)).atV hll
                have HA := Lib.hid (any_succ gs (fun y => sameV y ⟨xen, xev⟩) l _ hy)
                have l0 : (0 : Int) ≤ (l : Int) := by omega
                have l1 : (l : Int) < (gn : Int) := by omega
                obtain ⟨yn, yv⟩ := y
                simp only at e0 e1
                clear hy
                have had2 : ad2.block < wr.heap.size := by
                  obtain ⟨ad', e', h1, h2, _⟩ := (HFx.out.below (HBq.out.mono HBs.out)).2 j _ HY.out
                  cases e'
                  exact h2
                have HS17 : Hid (∀ W', (W' = wr.alloc (.cells #[.string yn, .int .i64 yv] 57) ∨ W' = (wr.alloc (.cells #[.string yn, .int .i64 yv] 57)).drew) → ((W'.cell? ⟨wr.heap.size, 0, none⟩ = some (.string yn) ∧ W'.cell? ⟨wr.heap.size, 1, none⟩ = some (.int .i64 yv)) ∧ (W'.cell? ⟨q7, 1, none⟩ = some (.slice (some ad2) xn xc) ∧ W'.cell? (ad2.add (j * 2)) = some (.string xen) ∧ W'.cell? ⟨(ad2.add (j * 2)).block, (ad2.add (j * 2)).off + 1, none⟩ = some (.int .i64 xev)))) := Lib.hid (by
                  have hk : (((wr.alloc (.cells #[.string yn, .int .i64 yv] 57)).cell? ⟨wr.heap.size, 0, none⟩ = some (.string yn) ∧ (wr.alloc (.cells #[.string yn, .int .i64 yv] 57)).cell? ⟨wr.heap.size, 1, none⟩ = some (.int .i64 yv)) ∧ ((wr.alloc (.cells #[.string yn, .int .i64 yv] 57)).cell? ⟨q7, 1, none⟩ = some (.slice (some ad2) xn xc) ∧ (wr.alloc (.cells #[.string yn, .int .i64 yv] 57)).cell? (ad2.add (j * 2)) = some (.string xen) ∧ (wr.alloc (.cells #[.string yn, .int .i64 yv] 57)).cell? ⟨(ad2.add (j * 2)).block, (ad2.add (j * 2)).off + 1, none⟩ = some (.int .i64 xev))) :=
                    ⟨⟨(Blk.new wr 57 #[.string yn, .int .i64 yv]).cell 0, (Blk.new wr 57 #[.string yn, .int .i64 yv]).cell 1⟩,
                      by rw [← r1]; exact cell_same (Below.heap_alloc _ _ _ lr7), by rw [← b0]; exact cell_same (Below.heap_alloc _ _ _ (by rw [add_block]; exact had2)), by rw [← b1]; exact cell_same (Below.heap_alloc wr _ (ad2.add (j * 2)).block (by rw [add_block]; exact had2))⟩
                  rintro W' (rfl | rfl)
                  · exact hk
                  · exact hk)
                have HW7 := Lib.hid ((hp.out.alloc hp.out.size (.cells #[.string yn, .int .i64 yv] 57)).drew)
                obtain ⟨bb, hbb⟩ : ∃ bb, (gs.take l).any (fun y => sameV y ⟨xen, xev⟩) = bb := ⟨_, rfl⟩
                rw [hbb] at HA ⊢
                clear hbb
                obtain ⟨bt, hbt⟩ : ∃ bt, (yn.toList == xen.toList) = bt := ⟨_, rfl⟩
                obtain ⟨bi, hbi⟩ : ∃ bi, (yv == xev) = bi := ⟨_, rfl⟩
                have HP : Hid ((gs.take (l + 1)).any (fun y => sameV y ⟨xen, xev⟩) = (bb || (bt && bi))) := Lib.hid (by
                  rw [HA.out]
                  show (bb || (sameT yn xen && yv == xev)) = _
                  rw [show sameT yn xen = bt from hbt, hbi])
                clear HA
                rcases bb with _ | _
                · rcases bt with _ | _
                  · go_wp2
                    refine wp_region_noPanic ?_
                    refine wp_region_held_drew (S := (fun W' => (W'.cell? ⟨wr.heap.size, 0, none⟩ = some (.string yn) ∧ W'.cell? ⟨wr.heap.size, 1, none⟩ = some (.int .i64 yv)) ∧ (W'.cell? ⟨q7, 1, none⟩ = some (.slice (some ad2) xn xc) ∧ W'.cell? (ad2.add (j * 2)) = some (.string xen) ∧ W'.cell? ⟨(ad2.add (j * 2)).block, (ad2.add (j * 2)).off + 1, none⟩ = some (.int .i64 xev)))) (by kernel_rfl) (HS17.out _ (.inr rfl)) (fun hHeld => ?_)
                    refine wpAnyH_take (i := 0) (oi := { dst := some 74, op := Op.move (Operand.tmp 10), type := 4, pos := "compat.go:166", after := #[], guard := none }) (v := ?_) rfl (by kernel_rfl) (by kernel_rfl) (by kernel_rfl) (fun _ _ _ h => h) (Or.inl ⟨by rfl, ?_⟩) hHeld ?_
                    rotate_left
                    · intro w hSw; (try dsimp only at hSw); (try go_split_ands); go_simp; (first | done | with_reducible rfl)
                    (try simp only [Act.put, List.setIfInBounds_toArray, List.set_cons_zero, List.set_cons_succ])
                    refine wpAnyH_take (i := 1) (oi := { dst := some 75, op := Op.move (Operand.tmp 74), type := 4, pos := "compat.go:166", after := #[{ on := 0, ground := Ground.data }], guard := none }) (v := ?_) rfl (by kernel_rfl) (by kernel_rfl) (by kernel_rfl) (fun _ _ _ h => h) (Or.inl ⟨by rfl, ?_⟩) hHeld ?_
                    rotate_left
                    · intro w hSw; (try dsimp only at hSw); (try go_split_ands); go_simp; (first | done | with_reducible rfl)
                    (try simp only [Act.put, List.setIfInBounds_toArray, List.set_cons_zero, List.set_cons_succ])
                    refine wpAnyH_take (i := 2) (oi := { dst := some 76, op := Op.fieldAddr 57 (Operand.tmp 12) 0, type := 0, pos := "compat.go:166", after := #[{ on := 1, ground := Ground.guard }], guard := some (1, false) }) (v := ?_) rfl (by kernel_rfl) (by kernel_rfl) (by kernel_rfl) (fun _ _ _ h => h) (Or.inl ⟨by rfl, ?_⟩) hHeld ?_
                    rotate_left
                    · intro w hSw; (try dsimp only at hSw); (try go_split_ands); go_simp; (first | done | with_reducible rfl)
                    (try simp only [Act.put, List.setIfInBounds_toArray, List.set_cons_zero, List.set_cons_succ])
                    refine wpAnyH_take (i := 3) (oi := { dst := some 77, op := Op.load 9 (Operand.tmp 76), type := 9, pos := "compat.go:166", after := #[{ on := 2, ground := Ground.data }, { on := 1, ground := Ground.guard }], guard := some (1, false) }) (v := ?_) rfl (by kernel_rfl) (by kernel_rfl) (by kernel_rfl) (fun _ _ _ h => h) (Or.inl ⟨by rfl, ?_⟩) hHeld ?_
                    rotate_left
                    · intro w hSw; (try dsimp only at hSw); (try go_split_ands); go_simp; (first | done | with_reducible rfl)
                    (try simp only [Act.put, List.setIfInBounds_toArray, List.set_cons_zero, List.set_cons_succ])
                    refine wpAnyH_take (i := 4) (oi := { dst := some 78, op := Op.fieldAddr 54 (Operand.tmp 7) 1, type := 0, pos := "compat.go:166", after := #[{ on := 1, ground := Ground.guard }], guard := some (1, false) }) (v := ?_) rfl (by kernel_rfl) (by kernel_rfl) (by kernel_rfl) (fun _ _ _ h => h) (Or.inl ⟨by rfl, ?_⟩) hHeld ?_
                    rotate_left
                    · intro w hSw; (try dsimp only at hSw); (try go_split_ands); go_simp; (first | done | with_reducible rfl)
                    (try simp only [Act.put, List.setIfInBounds_toArray, List.set_cons_zero, List.set_cons_succ])
                    refine wpAnyH_take (i := 5) (oi := { dst := some 79, op := Op.load 52 (Operand.tmp 78), type := 52, pos := "compat.go:166", after := #[{ on := 4, ground := Ground.data }, { on := 1, ground := Ground.guard }], guard := some (1, false) }) (v := ?_) rfl (by kernel_rfl) (by kernel_rfl) (by kernel_rfl) (fun _ _ _ h => h) (Or.inl ⟨by rfl, ?_⟩) hHeld ?_
                    rotate_left
                    · intro w hSw; (try dsimp only at hSw); (try go_split_ands); go_simp; (first | done | with_reducible rfl)
                    (try simp only [Act.put, List.setIfInBounds_toArray, List.set_cons_zero, List.set_cons_succ])
                    refine wpAnyH_take (i := 6) (oi := { dst := some 80, op := Op.move (Operand.tmp 9), type := 3, pos := "compat.go:166", after := #[{ on := 1, ground := Ground.guard }], guard := some (1, false) }) (v := ?_) rfl (by kernel_rfl) (by kernel_rfl) (by kernel_rfl) (fun _ _ _ h => h) (Or.inl ⟨by rfl, ?_⟩) hHeld ?_
                    rotate_left
                    · intro w hSw; (try dsimp only at hSw); (try go_split_ands); go_simp; (first | done | with_reducible rfl)
                    (try simp only [Act.put, List.setIfInBounds_toArray, List.set_cons_zero, List.set_cons_succ])
                    refine wpAnyH_take (i := 7) (oi := { dst := some 81, op := Op.indexAddr 52 (Operand.tmp 79) (Operand.tmp 80), type := 0, pos := "compat.go:166", after := #[{ on := 5, ground := Ground.data }, { on := 6, ground := Ground.data }, { on := 1, ground := Ground.guard }], guard := some (1, false) }) (v := ?_) rfl (by kernel_rfl) (by kernel_rfl) (by kernel_rfl) (fun _ _ _ h => h) (Or.inl ⟨by rfl, ?_⟩) hHeld ?_
                    rotate_left
                    · intro w hSw; (try dsimp only at hSw); (try go_split_ands); go_simp; (first | done | with_reducible rfl)
                    (try simp only [Act.put, List.setIfInBounds_toArray, List.set_cons_zero, List.set_cons_succ])
                    refine wpAnyH_take (i := 8) (oi := { dst := some 82, op := Op.fieldAddr 57 (Operand.tmp 81) 0, type := 0, pos := "compat.go:166", after := #[{ on := 7, ground := Ground.data }, { on := 1, ground := Ground.guard }], guard := some (1, false) }) (v := ?_) rfl (by kernel_rfl) (by kernel_rfl) (by kernel_rfl) (fun _ _ _ h => h) (Or.inl ⟨by rfl, ?_⟩) hHeld ?_
                    rotate_left
                    · intro w hSw; (try dsimp only at hSw); (try go_split_ands); go_simp; (first | done | with_reducible rfl)
                    (try simp only [Act.put, List.setIfInBounds_toArray, List.set_cons_zero, List.set_cons_succ])
                    refine wpAnyH_take (i := 9) (oi := { dst := some 83, op := Op.load 9 (Operand.tmp 82), type := 9, pos := "compat.go:166", after := #[{ on := 8, ground := Ground.data }, { on := 1, ground := Ground.guard }], guard := some (1, false) }) (v := ?_) rfl (by kernel_rfl) (by kernel_rfl) (by kernel_rfl) (fun _ _ _ h => h) (Or.inl ⟨by rfl, ?_⟩) hHeld ?_
                    rotate_left
                    · intro w hSw; (try dsimp only at hSw); (try go_split_ands); go_simp; (first | done | with_reducible rfl)
                    (try simp only [Act.put, List.setIfInBounds_toArray, List.set_cons_zero, List.set_cons_succ])
                    refine wpAnyH_take (i := 10) (oi := { dst := some 84, op := Op.binOp BinOp.eql 9 (Operand.tmp 77) (Operand.tmp 83) 9, type := 4, pos := "compat.go:166", after := #[{ on := 3, ground := Ground.data }, { on := 9, ground := Ground.data }, { on := 1, ground := Ground.guard }], guard := some (1, false) }) (v := .bool false) rfl (by kernel_rfl) (by kernel_rfl) (by kernel_rfl) (fun _ _ _ h => h) (Or.inl ⟨by rfl, ?_⟩) hHeld ?_
                    · intro w hSw; (try dsimp only at hSw); (try go_split_ands); go_simp; (first | done | with_reducible rfl | simp [hbt])
                    (try simp only [Act.put, List.setIfInBounds_toArray, List.set_cons_zero, List.set_cons_succ])
                    refine wpAnyH_take (i := 11) (oi := { dst := some 85, op := Op.move (Operand.tmp 84), type := 4, pos := "compat.go:166", after := #[{ on := 10, ground := Ground.data }, { on := 1, ground := Ground.chain }, { on := 1, ground := Ground.guard }], guard := some (1, false) }) (v := ?_) rfl (by kernel_rfl) (by kernel_rfl) (by kernel_rfl) (fun _ _ _ h => h) (Or.inl ⟨by rfl, ?_⟩) hHeld ?_
                    rotate_left
                    · intro w hSw; (try dsimp only at hSw); (try go_split_ands); go_simp; (first | done | with_reducible rfl)
                    (try simp only [Act.put, List.setIfInBounds_toArray, List.set_cons_zero, List.set_cons_succ])
                    refine wpAnyH_take (i := 12) (oi := { dst := some 86, op := Op.fieldAddr 57 (Operand.tmp 12) 1, type := 0, pos := "compat.go:166", after := #[{ on := 11, ground := Ground.guard }], guard := some (11, true) }) (v := undef) rfl (by kernel_rfl) (by kernel_rfl) (by kernel_rfl) (fun _ _ _ h => h) (Or.inr ⟨by rfl, rfl⟩) hHeld ?_
                    (try simp only [Act.put, List.setIfInBounds_toArray, List.set_cons_zero, List.set_cons_succ])
                    refine wpAnyH_take (i := 13) (oi := { dst := some 87, op := Op.load 3 (Operand.tmp 86), type := 3, pos := "compat.go:166", after := #[{ on := 12, ground := Ground.data }, { on := 11, ground := Ground.guard }], guard := some (11, true) }) (v := undef) rfl (by kernel_rfl) (by kernel_rfl) (by kernel_rfl) (fun _ _ _ h => h) (Or.inr ⟨by rfl, rfl⟩) hHeld ?_
                    (try simp only [Act.put, List.setIfInBounds_toArray, List.set_cons_zero, List.set_cons_succ])
                    refine wpAnyH_take (i := 14) (oi := { dst := some 88, op := Op.fieldAddr 54 (Operand.tmp 7) 1, type := 0, pos := "compat.go:166", after := #[{ on := 11, ground := Ground.guard }], guard := some (11, true) }) (v := undef) rfl (by kernel_rfl) (by kernel_rfl) (by kernel_rfl) (fun _ _ _ h => h) (Or.inr ⟨by rfl, rfl⟩) hHeld ?_
                    (try simp only [Act.put, List.setIfInBounds_toArray, List.set_cons_zero, List.set_cons_succ])
                    refine wpAnyH_take (i := 15) (oi := { dst := some 89, op := Op.load 52 (Operand.tmp 88), type := 52, pos := "compat.go:166", after := #[{ on := 14, ground := Ground.data }, { on := 11, ground := Ground.guard }], guard := some (11, true) }) (v := undef) rfl (by kernel_rfl) (by kernel_rfl) (by kernel_rfl) (fun _ _ _ h => h) (Or.inr ⟨by rfl, rfl⟩) hHeld ?_
                    (try simp only [Act.put, List.setIfInBounds_toArray, List.set_cons_zero, List.set_cons_succ])
                    refine wpAnyH_take (i := 16) (oi := { dst := some 90, op := Op.move (Operand.tmp 9), type := 3, pos := "compat.go:166", after := #[{ on := 11, ground := Ground.guard }], guard := some (11, true) }) (v := undef) rfl (by kernel_rfl) (by kernel_rfl) (by kernel_rfl) (fun _ _ _ h => h) (Or.inr ⟨by rfl, rfl⟩) hHeld ?_
                    (try simp only [Act.put, List.setIfInBounds_toArray, List.set_cons_zero, List.set_cons_succ])
                    refine wpAnyH_take (i := 17) (oi := { dst := some 91, op := Op.indexAddr 52 (Operand.tmp 89) (Operand.tmp 90), type := 0, pos := "compat.go:166", after := #[{ on := 15, ground := Ground.data }, { on := 16, ground := Ground.data }, { on := 11, ground := Ground.guard }], guard := some (11, true) }) (v := undef) rfl (by kernel_rfl) (by kernel_rfl) (by kernel_rfl) (fun _ _ _ h => h) (Or.inr ⟨by rfl, rfl⟩) hHeld ?_
                    (try simp only [Act.put, List.setIfInBounds_toArray, List.set_cons_zero, List.set_cons_succ])
                    refine wpAnyH_take (i := 18) (oi := { dst := some 92, op := Op.fieldAddr 57 (Operand.tmp 91) 1, type := 0, pos := "compat.go:166", after := #[{ on := 17, ground := Ground.data }, { on := 11, ground := Ground.guard }], guard := some (11, true) }) (v := undef) rfl (by kernel_rfl) (by kernel_rfl) (by kernel_rfl) (fun _ _ _ h => h) (Or.inr ⟨by rfl, rfl⟩) hHeld ?_
                    (try simp only [Act.put, List.setIfInBounds_toArray, List.set_cons_zero, List.set_cons_succ])
                    refine wpAnyH_take (i := 19) (oi := { dst := some 93, op := Op.load 3 (Operand.tmp 92), type := 3, pos := "compat.go:166", after := #[{ on := 18, ground := Ground.data }, { on := 11, ground := Ground.guard }], guard := some (11, true) }) (v := undef) rfl (by kernel_rfl) (by kernel_rfl) (by kernel_rfl) (fun _ _ _ h => h) (Or.inr ⟨by rfl, rfl⟩) hHeld ?_
                    (try simp only [Act.put, List.setIfInBounds_toArray, List.set_cons_zero, List.set_cons_succ])
                    refine wpAnyH_take (i := 20) (oi := { dst := some 94, op := Op.binOp BinOp.eql 3 (Operand.tmp 87) (Operand.tmp 93) 3, type := 4, pos := "compat.go:166", after := #[{ on := 13, ground := Ground.data }, { on := 19, ground := Ground.data }, { on := 11, ground := Ground.guard }], guard := some (11, true) }) (v := undef) rfl (by kernel_rfl) (by kernel_rfl) (by kernel_rfl) (fun _ _ _ h => h) (Or.inr ⟨by rfl, rfl⟩) hHeld ?_
                    (try simp only [Act.put, List.setIfInBounds_toArray, List.set_cons_zero, List.set_cons_succ])
                    refine wpAnyH_take (i := 21) (oi := { dst := some 95, op := Op.pick (Operand.tmp 85) (Operand.tmp 94) (Operand.const (Value.bool false)), type := 4, pos := "compat.go:166", after := #[{ on := 11, ground := Ground.data }, { on := 20, ground := Ground.data }, { on := 1, ground := Ground.guard }], guard := some (1, false) }) (v := ?_) rfl (by kernel_rfl) (by kernel_rfl) (by kernel_rfl) (fun _ _ _ h => h) (Or.inl ⟨by rfl, ?_⟩) hHeld ?_
                    rotate_left
                    · intro w hSw; (try dsimp only at hSw); (try go_split_ands); go_simp; (first | done | with_reducible rfl)
                    (try simp only [Act.put, List.setIfInBounds_toArray, List.set_cons_zero, List.set_cons_succ])
                    refine wpAnyH_take (i := 22) (oi := { dst := some 96, op := Op.pick (Operand.tmp 75) (Operand.const (Value.bool true)) (Operand.tmp 95), type := 4, pos := "compat.go:166", after := #[{ on := 1, ground := Ground.data }, { on := 21, ground := Ground.data }], guard := none }) (v := ?_) rfl (by kernel_rfl) (by kernel_rfl) (by kernel_rfl) (fun _ _ _ h => h) (Or.inl ⟨by rfl, ?_⟩) hHeld ?_
                    rotate_left
                    · intro w hSw; (try dsimp only at hSw); (try go_split_ands); go_simp; (first | done | with_reducible rfl)
                    (try simp only [Act.put, List.setIfInBounds_toArray, List.set_cons_zero, List.set_cons_succ])
                    refine wpAnyH_take (i := 23) (oi := { dst := some 10, op := Op.assign (Operand.tmp 96), type := 4, pos := "compat.go:166", after := #[{ on := 22, ground := Ground.data }, { on := 11, ground := Ground.chain }, { on := 0, ground := Ground.phase }, { on := 1, ground := Ground.phase }, { on := 2, ground := Ground.phase }, { on := 3, ground := Ground.phase }, { on := 4, ground := Ground.phase }, { on := 5, ground := Ground.phase }, { on := 6, ground := Ground.phase }, { on := 7, ground := Ground.phase }, { on := 8, ground := Ground.phase }, { on := 9, ground := Ground.phase }, { on := 10, ground := Ground.phase }, { on := 11, ground := Ground.phase }, { on := 12, ground := Ground.phase }, { on := 13, ground := Ground.phase }, { on := 14, ground := Ground.phase }, { on := 15, ground := Ground.phase }, { on := 16, ground := Ground.phase }, { on := 17, ground := Ground.phase }, { on := 18, ground := Ground.phase }, { on := 19, ground := Ground.phase }, { on := 20, ground := Ground.phase }, { on := 21, ground := Ground.phase }, { on := 22, ground := Ground.phase }], guard := none }) (v := ?_) rfl (by kernel_rfl) (by kernel_rfl) (by kernel_rfl) (fun _ _ _ h => h) (Or.inl ⟨by rfl, ?_⟩) hHeld ?_
                    rotate_left
                    · intro w hSw; (try dsimp only at hSw); (try go_split_ands); go_simp; (first | done | with_reducible rfl)
                    (try simp only [Act.put, List.setIfInBounds_toArray, List.set_cons_zero, List.set_cons_succ])
                    refine wpAnyH_done (by kernel_rfl) ?_ _
                    refine NoPanic.normal ?_
                    go_wp2_with fail
                    exact ⟨⟨l + 1, hll, by go_num, by rw [HP.out]; rfl, HW7⟩, by simp [intOf]; omega⟩
                  · go_wp2
                    refine wp_region_noPanic ?_
                    refine wp_region_held_drew (S := (fun W' => (W'.cell? ⟨wr.heap.size, 0, none⟩ = some (.string yn) ∧ W'.cell? ⟨wr.heap.size, 1, none⟩ = some (.int .i64 yv)) ∧ (W'.cell? ⟨q7, 1, none⟩ = some (.slice (some ad2) xn xc) ∧ W'.cell? (ad2.add (j * 2)) = some (.string xen) ∧ W'.cell? ⟨(ad2.add (j * 2)).block, (ad2.add (j * 2)).off + 1, none⟩ = some (.int .i64 xev)))) (by kernel_rfl) (HS17.out _ (.inr rfl)) (fun hHeld => ?_)
                    refine wpAnyH_take (i := 0) (oi := { dst := some 74, op := Op.move (Operand.tmp 10), type := 4, pos := "compat.go:166", after := #[], guard := none }) (v := ?_) rfl (by kernel_rfl) (by kernel_rfl) (by kernel_rfl) (fun _ _ _ h => h) (Or.inl ⟨by rfl, ?_⟩) hHeld ?_
                    rotate_left
                    · intro w hSw; (try dsimp only at hSw); (try go_split_ands); go_simp; (first | done | with_reducible rfl)
                    (try simp only [Act.put, List.setIfInBounds_toArray, List.set_cons_zero, List.set_cons_succ])
                    refine wpAnyH_take (i := 1) (oi := { dst := some 75, op := Op.move (Operand.tmp 74), type := 4, pos := "compat.go:166", after := #[{ on := 0, ground := Ground.data }], guard := none }) (v := ?_) rfl (by kernel_rfl) (by kernel_rfl) (by kernel_rfl) (fun _ _ _ h => h) (Or.inl ⟨by rfl, ?_⟩) hHeld ?_
                    rotate_left
                    · intro w hSw; (try dsimp only at hSw); (try go_split_ands); go_simp; (first | done | with_reducible rfl)
                    (try simp only [Act.put, List.setIfInBounds_toArray, List.set_cons_zero, List.set_cons_succ])
                    refine wpAnyH_take (i := 2) (oi := { dst := some 76, op := Op.fieldAddr 57 (Operand.tmp 12) 0, type := 0, pos := "compat.go:166", after := #[{ on := 1, ground := Ground.guard }], guard := some (1, false) }) (v := ?_) rfl (by kernel_rfl) (by kernel_rfl) (by kernel_rfl) (fun _ _ _ h => h) (Or.inl ⟨by rfl, ?_⟩) hHeld ?_
                    rotate_left
                    · intro w hSw; (try dsimp only at hSw); (try go_split_ands); go_simp; (first | done | with_reducible rfl)
                    (try simp only [Act.put, List.setIfInBounds_toArray, List.set_cons_zero, List.set_cons_succ])
                    refine wpAnyH_take (i := 3) (oi := { dst := some 77, op := Op.load 9 (Operand.tmp 76), type := 9, pos := "compat.go:166", after := #[{ on := 2, ground := Ground.data }, { on := 1, ground := Ground.guard }], guard := some (1, false) }) (v := ?_) rfl (by kernel_rfl) (by kernel_rfl) (by kernel_rfl) (fun _ _ _ h => h) (Or.inl ⟨by rfl, ?_⟩) hHeld ?_
                    rotate_left
                    · intro w hSw; (try dsimp only at hSw); (try go_split_ands); go_simp; (first | done | with_reducible rfl)
                    (try simp only [Act.put, List.setIfInBounds_toArray, List.set_cons_zero, List.set_cons_succ])
                    refine wpAnyH_take (i := 4) (oi := { dst := some 78, op := Op.fieldAddr 54 (Operand.tmp 7) 1, type := 0, pos := "compat.go:166", after := #[{ on := 1, ground := Ground.guard }], guard := some (1, false) }) (v := ?_) rfl (by kernel_rfl) (by kernel_rfl) (by kernel_rfl) (fun _ _ _ h => h) (Or.inl ⟨by rfl, ?_⟩) hHeld ?_
                    rotate_left
                    · intro w hSw; (try dsimp only at hSw); (try go_split_ands); go_simp; (first | done | with_reducible rfl)
                    (try simp only [Act.put, List.setIfInBounds_toArray, List.set_cons_zero, List.set_cons_succ])
                    refine wpAnyH_take (i := 5) (oi := { dst := some 79, op := Op.load 52 (Operand.tmp 78), type := 52, pos := "compat.go:166", after := #[{ on := 4, ground := Ground.data }, { on := 1, ground := Ground.guard }], guard := some (1, false) }) (v := ?_) rfl (by kernel_rfl) (by kernel_rfl) (by kernel_rfl) (fun _ _ _ h => h) (Or.inl ⟨by rfl, ?_⟩) hHeld ?_
                    rotate_left
                    · intro w hSw; (try dsimp only at hSw); (try go_split_ands); go_simp; (first | done | with_reducible rfl)
                    (try simp only [Act.put, List.setIfInBounds_toArray, List.set_cons_zero, List.set_cons_succ])
                    refine wpAnyH_take (i := 6) (oi := { dst := some 80, op := Op.move (Operand.tmp 9), type := 3, pos := "compat.go:166", after := #[{ on := 1, ground := Ground.guard }], guard := some (1, false) }) (v := ?_) rfl (by kernel_rfl) (by kernel_rfl) (by kernel_rfl) (fun _ _ _ h => h) (Or.inl ⟨by rfl, ?_⟩) hHeld ?_
                    rotate_left
                    · intro w hSw; (try dsimp only at hSw); (try go_split_ands); go_simp; (first | done | with_reducible rfl)
                    (try simp only [Act.put, List.setIfInBounds_toArray, List.set_cons_zero, List.set_cons_succ])
                    refine wpAnyH_take (i := 7) (oi := { dst := some 81, op := Op.indexAddr 52 (Operand.tmp 79) (Operand.tmp 80), type := 0, pos := "compat.go:166", after := #[{ on := 5, ground := Ground.data }, { on := 6, ground := Ground.data }, { on := 1, ground := Ground.guard }], guard := some (1, false) }) (v := ?_) rfl (by kernel_rfl) (by kernel_rfl) (by kernel_rfl) (fun _ _ _ h => h) (Or.inl ⟨by rfl, ?_⟩) hHeld ?_
                    rotate_left
                    · intro w hSw; (try dsimp only at hSw); (try go_split_ands); go_simp; (first | done | with_reducible rfl)
                    (try simp only [Act.put, List.setIfInBounds_toArray, List.set_cons_zero, List.set_cons_succ])
                    refine wpAnyH_take (i := 8) (oi := { dst := some 82, op := Op.fieldAddr 57 (Operand.tmp 81) 0, type := 0, pos := "compat.go:166", after := #[{ on := 7, ground := Ground.data }, { on := 1, ground := Ground.guard }], guard := some (1, false) }) (v := ?_) rfl (by kernel_rfl) (by kernel_rfl) (by kernel_rfl) (fun _ _ _ h => h) (Or.inl ⟨by rfl, ?_⟩) hHeld ?_
                    rotate_left
                    · intro w hSw; (try dsimp only at hSw); (try go_split_ands); go_simp; (first | done | with_reducible rfl)
                    (try simp only [Act.put, List.setIfInBounds_toArray, List.set_cons_zero, List.set_cons_succ])
                    refine wpAnyH_take (i := 9) (oi := { dst := some 83, op := Op.load 9 (Operand.tmp 82), type := 9, pos := "compat.go:166", after := #[{ on := 8, ground := Ground.data }, { on := 1, ground := Ground.guard }], guard := some (1, false) }) (v := ?_) rfl (by kernel_rfl) (by kernel_rfl) (by kernel_rfl) (fun _ _ _ h => h) (Or.inl ⟨by rfl, ?_⟩) hHeld ?_
                    rotate_left
                    · intro w hSw; (try dsimp only at hSw); (try go_split_ands); go_simp; (first | done | with_reducible rfl)
                    (try simp only [Act.put, List.setIfInBounds_toArray, List.set_cons_zero, List.set_cons_succ])
                    refine wpAnyH_take (i := 10) (oi := { dst := some 84, op := Op.binOp BinOp.eql 9 (Operand.tmp 77) (Operand.tmp 83) 9, type := 4, pos := "compat.go:166", after := #[{ on := 3, ground := Ground.data }, { on := 9, ground := Ground.data }, { on := 1, ground := Ground.guard }], guard := some (1, false) }) (v := .bool true) rfl (by kernel_rfl) (by kernel_rfl) (by kernel_rfl) (fun _ _ _ h => h) (Or.inl ⟨by rfl, ?_⟩) hHeld ?_
                    · intro w hSw; (try dsimp only at hSw); (try go_split_ands); go_simp; (first | done | with_reducible rfl | simp [hbt])
                    (try simp only [Act.put, List.setIfInBounds_toArray, List.set_cons_zero, List.set_cons_succ])
                    refine wpAnyH_take (i := 11) (oi := { dst := some 85, op := Op.move (Operand.tmp 84), type := 4, pos := "compat.go:166", after := #[{ on := 10, ground := Ground.data }, { on := 1, ground := Ground.chain }, { on := 1, ground := Ground.guard }], guard := some (1, false) }) (v := ?_) rfl (by kernel_rfl) (by kernel_rfl) (by kernel_rfl) (fun _ _ _ h => h) (Or.inl ⟨by rfl, ?_⟩) hHeld ?_
                    rotate_left
                    · intro w hSw; (try dsimp only at hSw); (try go_split_ands); go_simp; (first | done | with_reducible rfl)
                    (try simp only [Act.put, List.setIfInBounds_toArray, List.set_cons_zero, List.set_cons_succ])
                    refine wpAnyH_take (i := 12) (oi := { dst := some 86, op := Op.fieldAddr 57 (Operand.tmp 12) 1, type := 0, pos := "compat.go:166", after := #[{ on := 11, ground := Ground.guard }], guard := some (11, true) }) (v := ?_) rfl (by kernel_rfl) (by kernel_rfl) (by kernel_rfl) (fun _ _ _ h => h) (Or.inl ⟨by rfl, ?_⟩) hHeld ?_
                    rotate_left
                    · intro w hSw; (try dsimp only at hSw); (try go_split_ands); go_simp; (first | done | with_reducible rfl)
                    (try simp only [Act.put, List.setIfInBounds_toArray, List.set_cons_zero, List.set_cons_succ])
                    refine wpAnyH_take (i := 13) (oi := { dst := some 87, op := Op.load 3 (Operand.tmp 86), type := 3, pos := "compat.go:166", after := #[{ on := 12, ground := Ground.data }, { on := 11, ground := Ground.guard }], guard := some (11, true) }) (v := ?_) rfl (by kernel_rfl) (by kernel_rfl) (by kernel_rfl) (fun _ _ _ h => h) (Or.inl ⟨by rfl, ?_⟩) hHeld ?_
                    rotate_left
                    · intro w hSw; (try dsimp only at hSw); (try go_split_ands); go_simp; (first | done | with_reducible rfl)
                    (try simp only [Act.put, List.setIfInBounds_toArray, List.set_cons_zero, List.set_cons_succ])
                    refine wpAnyH_take (i := 14) (oi := { dst := some 88, op := Op.fieldAddr 54 (Operand.tmp 7) 1, type := 0, pos := "compat.go:166", after := #[{ on := 11, ground := Ground.guard }], guard := some (11, true) }) (v := ?_) rfl (by kernel_rfl) (by kernel_rfl) (by kernel_rfl) (fun _ _ _ h => h) (Or.inl ⟨by rfl, ?_⟩) hHeld ?_
                    rotate_left
                    · intro w hSw; (try dsimp only at hSw); (try go_split_ands); go_simp; (first | done | with_reducible rfl)
                    (try simp only [Act.put, List.setIfInBounds_toArray, List.set_cons_zero, List.set_cons_succ])
                    refine wpAnyH_take (i := 15) (oi := { dst := some 89, op := Op.load 52 (Operand.tmp 88), type := 52, pos := "compat.go:166", after := #[{ on := 14, ground := Ground.data }, { on := 11, ground := Ground.guard }], guard := some (11, true) }) (v := ?_) rfl (by kernel_rfl) (by kernel_rfl) (by kernel_rfl) (fun _ _ _ h => h) (Or.inl ⟨by rfl, ?_⟩) hHeld ?_
                    rotate_left
                    · intro w hSw; (try dsimp only at hSw); (try go_split_ands); go_simp; (first | done | with_reducible rfl)
                    (try simp only [Act.put, List.setIfInBounds_toArray, List.set_cons_zero, List.set_cons_succ])
                    refine wpAnyH_take (i := 16) (oi := { dst := some 90, op := Op.move (Operand.tmp 9), type := 3, pos := "compat.go:166", after := #[{ on := 11, ground := Ground.guard }], guard := some (11, true) }) (v := ?_) rfl (by kernel_rfl) (by kernel_rfl) (by kernel_rfl) (fun _ _ _ h => h) (Or.inl ⟨by rfl, ?_⟩) hHeld ?_
                    rotate_left
                    · intro w hSw; (try dsimp only at hSw); (try go_split_ands); go_simp; (first | done | with_reducible rfl)
                    (try simp only [Act.put, List.setIfInBounds_toArray, List.set_cons_zero, List.set_cons_succ])
                    refine wpAnyH_take (i := 17) (oi := { dst := some 91, op := Op.indexAddr 52 (Operand.tmp 89) (Operand.tmp 90), type := 0, pos := "compat.go:166", after := #[{ on := 15, ground := Ground.data }, { on := 16, ground := Ground.data }, { on := 11, ground := Ground.guard }], guard := some (11, true) }) (v := ?_) rfl (by kernel_rfl) (by kernel_rfl) (by kernel_rfl) (fun _ _ _ h => h) (Or.inl ⟨by rfl, ?_⟩) hHeld ?_
                    rotate_left
                    · intro w hSw; (try dsimp only at hSw); (try go_split_ands); go_simp; (first | done | with_reducible rfl)
                    (try simp only [Act.put, List.setIfInBounds_toArray, List.set_cons_zero, List.set_cons_succ])
                    refine wpAnyH_take (i := 18) (oi := { dst := some 92, op := Op.fieldAddr 57 (Operand.tmp 91) 1, type := 0, pos := "compat.go:166", after := #[{ on := 17, ground := Ground.data }, { on := 11, ground := Ground.guard }], guard := some (11, true) }) (v := ?_) rfl (by kernel_rfl) (by kernel_rfl) (by kernel_rfl) (fun _ _ _ h => h) (Or.inl ⟨by rfl, ?_⟩) hHeld ?_
                    rotate_left
                    · intro w hSw; (try dsimp only at hSw); (try go_split_ands); go_simp; (first | done | with_reducible rfl)
                    (try simp only [Act.put, List.setIfInBounds_toArray, List.set_cons_zero, List.set_cons_succ])
                    refine wpAnyH_take (i := 19) (oi := { dst := some 93, op := Op.load 3 (Operand.tmp 92), type := 3, pos := "compat.go:166", after := #[{ on := 18, ground := Ground.data }, { on := 11, ground := Ground.guard }], guard := some (11, true) }) (v := ?_) rfl (by kernel_rfl) (by kernel_rfl) (by kernel_rfl) (fun _ _ _ h => h) (Or.inl ⟨by rfl, ?_⟩) hHeld ?_
                    rotate_left
                    · intro w hSw; (try dsimp only at hSw); (try go_split_ands); go_simp; (first | done | with_reducible rfl)
                    (try simp only [Act.put, List.setIfInBounds_toArray, List.set_cons_zero, List.set_cons_succ])
                    refine wpAnyH_take (i := 20) (oi := { dst := some 94, op := Op.binOp BinOp.eql 3 (Operand.tmp 87) (Operand.tmp 93) 3, type := 4, pos := "compat.go:166", after := #[{ on := 13, ground := Ground.data }, { on := 19, ground := Ground.data }, { on := 11, ground := Ground.guard }], guard := some (11, true) }) (v := .bool bi) rfl (by kernel_rfl) (by kernel_rfl) (by kernel_rfl) (fun _ _ _ h => h) (Or.inl ⟨by rfl, ?_⟩) hHeld ?_
                    · intro w hSw; (try dsimp only at hSw); (try go_split_ands); go_simp; (first | done | with_reducible rfl | simp [hbi])
                    (try simp only [Act.put, List.setIfInBounds_toArray, List.set_cons_zero, List.set_cons_succ])
                    refine wpAnyH_take (i := 21) (oi := { dst := some 95, op := Op.pick (Operand.tmp 85) (Operand.tmp 94) (Operand.const (Value.bool false)), type := 4, pos := "compat.go:166", after := #[{ on := 11, ground := Ground.data }, { on := 20, ground := Ground.data }, { on := 1, ground := Ground.guard }], guard := some (1, false) }) (v := ?_) rfl (by kernel_rfl) (by kernel_rfl) (by kernel_rfl) (fun _ _ _ h => h) (Or.inl ⟨by rfl, ?_⟩) hHeld ?_
                    rotate_left
                    · intro w hSw; (try dsimp only at hSw); (try go_split_ands); go_simp; (first | done | with_reducible rfl)
                    (try simp only [Act.put, List.setIfInBounds_toArray, List.set_cons_zero, List.set_cons_succ])
                    refine wpAnyH_take (i := 22) (oi := { dst := some 96, op := Op.pick (Operand.tmp 75) (Operand.const (Value.bool true)) (Operand.tmp 95), type := 4, pos := "compat.go:166", after := #[{ on := 1, ground := Ground.data }, { on := 21, ground := Ground.data }], guard := none }) (v := ?_) rfl (by kernel_rfl) (by kernel_rfl) (by kernel_rfl) (fun _ _ _ h => h) (Or.inl ⟨by rfl, ?_⟩) hHeld ?_
                    rotate_left
                    · intro w hSw; (try dsimp only at hSw); (try go_split_ands); go_simp; (first | done | with_reducible rfl)
                    (try simp only [Act.put, List.setIfInBounds_toArray, List.set_cons_zero, List.set_cons_succ])
                    refine wpAnyH_take (i := 23) (oi := { dst := some 10, op := Op.assign (Operand.tmp 96), type := 4, pos := "compat.go:166", after := #[{ on := 22, ground := Ground.data }, { on := 11, ground := Ground.chain }, { on := 0, ground := Ground.phase }, { on := 1, ground := Ground.phase }, { on := 2, ground := Ground.phase }, { on := 3, ground := Ground.phase }, { on := 4, ground := Ground.phase }, { on := 5, ground := Ground.phase }, { on := 6, ground := Ground.phase }, { on := 7, ground := Ground.phase }, { on := 8, ground := Ground.phase }, { on := 9, ground := Ground.phase }, { on := 10, ground := Ground.phase }, { on := 11, ground := Ground.phase }, { on := 12, ground := Ground.phase }, { on := 13, ground := Ground.phase }, { on := 14, ground := Ground.phase }, { on := 15, ground := Ground.phase }, { on := 16, ground := Ground.phase }, { on := 17, ground := Ground.phase }, { on := 18, ground := Ground.phase }, { on := 19, ground := Ground.phase }, { on := 20, ground := Ground.phase }, { on := 21, ground := Ground.phase }, { on := 22, ground := Ground.phase }], guard := none }) (v := ?_) rfl (by kernel_rfl) (by kernel_rfl) (by kernel_rfl) (fun _ _ _ h => h) (Or.inl ⟨by rfl, ?_⟩) hHeld ?_
                    rotate_left
                    · intro w hSw; (try dsimp only at hSw); (try go_split_ands); go_simp; (first | done | with_reducible rfl)
                    (try simp only [Act.put, List.setIfInBounds_toArray, List.set_cons_zero, List.set_cons_succ])
                    refine wpAnyH_done (by kernel_rfl) ?_ _
                    refine NoPanic.normal ?_
                    go_wp2_with fail
                    exact ⟨⟨l + 1, hll, by go_num, by rw [HP.out]; simp, HW7⟩, by simp [intOf]; omega⟩
                · go_wp2
                  refine wp_region_noPanic ?_
                  refine wp_region_held_drew (S := (fun W' => (W'.cell? ⟨wr.heap.size, 0, none⟩ = some (.string yn) ∧ W'.cell? ⟨wr.heap.size, 1, none⟩ = some (.int .i64 yv)) ∧ (W'.cell? ⟨q7, 1, none⟩ = some (.slice (some ad2) xn xc) ∧ W'.cell? (ad2.add (j * 2)) = some (.string xen) ∧ W'.cell? ⟨(ad2.add (j * 2)).block, (ad2.add (j * 2)).off + 1, none⟩ = some (.int .i64 xev)))) (by kernel_rfl) (HS17.out _ (.inr rfl)) (fun hHeld => ?_)
                  refine wpAnyH_take (i := 0) (oi := { dst := some 74, op := Op.move (Operand.tmp 10), type := 4, pos := "compat.go:166", after := #[], guard := none }) (v := ?_) rfl (by kernel_rfl) (by kernel_rfl) (by kernel_rfl) (fun _ _ _ h => h) (Or.inl ⟨by rfl, ?_⟩) hHeld ?_
                  rotate_left
                  · intro w hSw; (try dsimp only at hSw); (try go_split_ands); go_simp; (first | done | with_reducible rfl)
                  (try simp only [Act.put, List.setIfInBounds_toArray, List.set_cons_zero, List.set_cons_succ])
                  refine wpAnyH_take (i := 1) (oi := { dst := some 75, op := Op.move (Operand.tmp 74), type := 4, pos := "compat.go:166", after := #[{ on := 0, ground := Ground.data }], guard := none }) (v := ?_) rfl (by kernel_rfl) (by kernel_rfl) (by kernel_rfl) (fun _ _ _ h => h) (Or.inl ⟨by rfl, ?_⟩) hHeld ?_
                  rotate_left
                  · intro w hSw; (try dsimp only at hSw); (try go_split_ands); go_simp; (first | done | with_reducible rfl)
                  (try simp only [Act.put, List.setIfInBounds_toArray, List.set_cons_zero, List.set_cons_succ])
                  refine wpAnyH_take (i := 2) (oi := { dst := some 76, op := Op.fieldAddr 57 (Operand.tmp 12) 0, type := 0, pos := "compat.go:166", after := #[{ on := 1, ground := Ground.guard }], guard := some (1, false) }) (v := undef) rfl (by kernel_rfl) (by kernel_rfl) (by kernel_rfl) (fun _ _ _ h => h) (Or.inr ⟨by rfl, rfl⟩) hHeld ?_
                  (try simp only [Act.put, List.setIfInBounds_toArray, List.set_cons_zero, List.set_cons_succ])
                  refine wpAnyH_take (i := 3) (oi := { dst := some 77, op := Op.load 9 (Operand.tmp 76), type := 9, pos := "compat.go:166", after := #[{ on := 2, ground := Ground.data }, { on := 1, ground := Ground.guard }], guard := some (1, false) }) (v := undef) rfl (by kernel_rfl) (by kernel_rfl) (by kernel_rfl) (fun _ _ _ h => h) (Or.inr ⟨by rfl, rfl⟩) hHeld ?_
                  (try simp only [Act.put, List.setIfInBounds_toArray, List.set_cons_zero, List.set_cons_succ])
                  refine wpAnyH_take (i := 4) (oi := { dst := some 78, op := Op.fieldAddr 54 (Operand.tmp 7) 1, type := 0, pos := "compat.go:166", after := #[{ on := 1, ground := Ground.guard }], guard := some (1, false) }) (v := undef) rfl (by kernel_rfl) (by kernel_rfl) (by kernel_rfl) (fun _ _ _ h => h) (Or.inr ⟨by rfl, rfl⟩) hHeld ?_
                  (try simp only [Act.put, List.setIfInBounds_toArray, List.set_cons_zero, List.set_cons_succ])
                  refine wpAnyH_take (i := 5) (oi := { dst := some 79, op := Op.load 52 (Operand.tmp 78), type := 52, pos := "compat.go:166", after := #[{ on := 4, ground := Ground.data }, { on := 1, ground := Ground.guard }], guard := some (1, false) }) (v := undef) rfl (by kernel_rfl) (by kernel_rfl) (by kernel_rfl) (fun _ _ _ h => h) (Or.inr ⟨by rfl, rfl⟩) hHeld ?_
                  (try simp only [Act.put, List.setIfInBounds_toArray, List.set_cons_zero, List.set_cons_succ])
                  refine wpAnyH_take (i := 6) (oi := { dst := some 80, op := Op.move (Operand.tmp 9), type := 3, pos := "compat.go:166", after := #[{ on := 1, ground := Ground.guard }], guard := some (1, false) }) (v := undef) rfl (by kernel_rfl) (by kernel_rfl) (by kernel_rfl) (fun _ _ _ h => h) (Or.inr ⟨by rfl, rfl⟩) hHeld ?_
                  (try simp only [Act.put, List.setIfInBounds_toArray, List.set_cons_zero, List.set_cons_succ])
                  refine wpAnyH_take (i := 7) (oi := { dst := some 81, op := Op.indexAddr 52 (Operand.tmp 79) (Operand.tmp 80), type := 0, pos := "compat.go:166", after := #[{ on := 5, ground := Ground.data }, { on := 6, ground := Ground.data }, { on := 1, ground := Ground.guard }], guard := some (1, false) }) (v := undef) rfl (by kernel_rfl) (by kernel_rfl) (by kernel_rfl) (fun _ _ _ h => h) (Or.inr ⟨by rfl, rfl⟩) hHeld ?_
                  (try simp only [Act.put, List.setIfInBounds_toArray, List.set_cons_zero, List.set_cons_succ])
                  refine wpAnyH_take (i := 8) (oi := { dst := some 82, op := Op.fieldAddr 57 (Operand.tmp 81) 0, type := 0, pos := "compat.go:166", after := #[{ on := 7, ground := Ground.data }, { on := 1, ground := Ground.guard }], guard := some (1, false) }) (v := undef) rfl (by kernel_rfl) (by kernel_rfl) (by kernel_rfl) (fun _ _ _ h => h) (Or.inr ⟨by rfl, rfl⟩) hHeld ?_
                  (try simp only [Act.put, List.setIfInBounds_toArray, List.set_cons_zero, List.set_cons_succ])
                  refine wpAnyH_take (i := 9) (oi := { dst := some 83, op := Op.load 9 (Operand.tmp 82), type := 9, pos := "compat.go:166", after := #[{ on := 8, ground := Ground.data }, { on := 1, ground := Ground.guard }], guard := some (1, false) }) (v := undef) rfl (by kernel_rfl) (by kernel_rfl) (by kernel_rfl) (fun _ _ _ h => h) (Or.inr ⟨by rfl, rfl⟩) hHeld ?_
                  (try simp only [Act.put, List.setIfInBounds_toArray, List.set_cons_zero, List.set_cons_succ])
                  refine wpAnyH_take (i := 10) (oi := { dst := some 84, op := Op.binOp BinOp.eql 9 (Operand.tmp 77) (Operand.tmp 83) 9, type := 4, pos := "compat.go:166", after := #[{ on := 3, ground := Ground.data }, { on := 9, ground := Ground.data }, { on := 1, ground := Ground.guard }], guard := some (1, false) }) (v := undef) rfl (by kernel_rfl) (by kernel_rfl) (by kernel_rfl) (fun _ _ _ h => h) (Or.inr ⟨by rfl, rfl⟩) hHeld ?_
                  (try simp only [Act.put, List.setIfInBounds_toArray, List.set_cons_zero, List.set_cons_succ])
                  refine wpAnyH_take (i := 11) (oi := { dst := some 85, op := Op.move (Operand.tmp 84), type := 4, pos := "compat.go:166", after := #[{ on := 10, ground := Ground.data }, { on := 1, ground := Ground.chain }, { on := 1, ground := Ground.guard }], guard := some (1, false) }) (v := undef) rfl (by kernel_rfl) (by kernel_rfl) (by kernel_rfl) (fun _ _ _ h => h) (Or.inr ⟨by rfl, rfl⟩) hHeld ?_
                  (try simp only [Act.put, List.setIfInBounds_toArray, List.set_cons_zero, List.set_cons_succ])
                  refine wpAnyH_take (i := 12) (oi := { dst := some 86, op := Op.fieldAddr 57 (Operand.tmp 12) 1, type := 0, pos := "compat.go:166", after := #[{ on := 11, ground := Ground.guard }], guard := some (11, true) }) (v := undef) rfl (by kernel_rfl) (by kernel_rfl) (by kernel_rfl) (fun _ _ _ h => h) (Or.inr ⟨by rfl, rfl⟩) hHeld ?_
                  (try simp only [Act.put, List.setIfInBounds_toArray, List.set_cons_zero, List.set_cons_succ])
                  refine wpAnyH_take (i := 13) (oi := { dst := some 87, op := Op.load 3 (Operand.tmp 86), type := 3, pos := "compat.go:166", after := #[{ on := 12, ground := Ground.data }, { on := 11, ground := Ground.guard }], guard := some (11, true) }) (v := undef) rfl (by kernel_rfl) (by kernel_rfl) (by kernel_rfl) (fun _ _ _ h => h) (Or.inr ⟨by rfl, rfl⟩) hHeld ?_
                  (try simp only [Act.put, List.setIfInBounds_toArray, List.set_cons_zero, List.set_cons_succ])
                  refine wpAnyH_take (i := 14) (oi := { dst := some 88, op := Op.fieldAddr 54 (Operand.tmp 7) 1, type := 0, pos := "compat.go:166", after := #[{ on := 11, ground := Ground.guard }], guard := some (11, true) }) (v := undef) rfl (by kernel_rfl) (by kernel_rfl) (by kernel_rfl) (fun _ _ _ h => h) (Or.inr ⟨by rfl, rfl⟩) hHeld ?_
                  (try simp only [Act.put, List.setIfInBounds_toArray, List.set_cons_zero, List.set_cons_succ])
                  refine wpAnyH_take (i := 15) (oi := { dst := some 89, op := Op.load 52 (Operand.tmp 88), type := 52, pos := "compat.go:166", after := #[{ on := 14, ground := Ground.data }, { on := 11, ground := Ground.guard }], guard := some (11, true) }) (v := undef) rfl (by kernel_rfl) (by kernel_rfl) (by kernel_rfl) (fun _ _ _ h => h) (Or.inr ⟨by rfl, rfl⟩) hHeld ?_
                  (try simp only [Act.put, List.setIfInBounds_toArray, List.set_cons_zero, List.set_cons_succ])
                  refine wpAnyH_take (i := 16) (oi := { dst := some 90, op := Op.move (Operand.tmp 9), type := 3, pos := "compat.go:166", after := #[{ on := 11, ground := Ground.guard }], guard := some (11, true) }) (v := undef) rfl (by kernel_rfl) (by kernel_rfl) (by kernel_rfl) (fun _ _ _ h => h) (Or.inr ⟨by rfl, rfl⟩) hHeld ?_
                  (try simp only [Act.put, List.setIfInBounds_toArray, List.set_cons_zero, List.set_cons_succ])
                  refine wpAnyH_take (i := 17) (oi := { dst := some 91, op := Op.indexAddr 52 (Operand.tmp 89) (Operand.tmp 90), type := 0, pos := "compat.go:166", after := #[{ on := 15, ground := Ground.data }, { on := 16, ground := Ground.data }, { on := 11, ground := Ground.guard }], guard := some (11, true) }) (v := undef) rfl (by kernel_rfl) (by kernel_rfl) (by kernel_rfl) (fun _ _ _ h => h) (Or.inr ⟨by rfl, rfl⟩) hHeld ?_
                  (try simp only [Act.put, List.setIfInBounds_toArray, List.set_cons_zero, List.set_cons_succ])
                  refine wpAnyH_take (i := 18) (oi := { dst := some 92, op := Op.fieldAddr 57 (Operand.tmp 91) 1, type := 0, pos := "compat.go:166", after := #[{ on := 17, ground := Ground.data }, { on := 11, ground := Ground.guard }], guard := some (11, true) }) (v := undef) rfl (by kernel_rfl) (by kernel_rfl) (by kernel_rfl) (fun _ _ _ h => h) (Or.inr ⟨by rfl, rfl⟩) hHeld ?_
                  (try simp only [Act.put, List.setIfInBounds_toArray, List.set_cons_zero, List.set_cons_succ])
                  refine wpAnyH_take (i := 19) (oi := { dst := some 93, op := Op.load 3 (Operand.tmp 92), type := 3, pos := "compat.go:166", after := #[{ on := 18, ground := Ground.data }, { on := 11, ground := Ground.guard }], guard := some (11, true) }) (v := undef) rfl (by kernel_rfl) (by kernel_rfl) (by kernel_rfl) (fun _ _ _ h => h) (Or.inr ⟨by rfl, rfl⟩) hHeld ?_
                  (try simp only [Act.put, List.setIfInBounds_toArray, List.set_cons_zero, List.set_cons_succ])
                  refine wpAnyH_take (i := 20) (oi := { dst := some 94, op := Op.binOp BinOp.eql 3 (Operand.tmp 87) (Operand.tmp 93) 3, type := 4, pos := "compat.go:166", after := #[{ on := 13, ground := Ground.data }, { on := 19, ground := Ground.data }, { on := 11, ground := Ground.guard }], guard := some (11, true) }) (v := undef) rfl (by kernel_rfl) (by kernel_rfl) (by kernel_rfl) (fun _ _ _ h => h) (Or.inr ⟨by rfl, rfl⟩) hHeld ?_
                  (try simp only [Act.put, List.setIfInBounds_toArray, List.set_cons_zero, List.set_cons_succ])
                  refine wpAnyH_take (i := 21) (oi := { dst := some 95, op := Op.pick (Operand.tmp 85) (Operand.tmp 94) (Operand.const (Value.bool false)), type := 4, pos := "compat.go:166", after := #[{ on := 11, ground := Ground.data }, { on := 20, ground := Ground.data }, { on := 1, ground := Ground.guard }], guard := some (1, false) }) (v := undef) rfl (by kernel_rfl) (by kernel_rfl) (by kernel_rfl) (fun _ _ _ h => h) (Or.inr ⟨by rfl, rfl⟩) hHeld ?_
                  (try simp only [Act.put, List.setIfInBounds_toArray, List.set_cons_zero, List.set_cons_succ])
                  refine wpAnyH_take (i := 22) (oi := { dst := some 96, op := Op.pick (Operand.tmp 75) (Operand.const (Value.bool true)) (Operand.tmp 95), type := 4, pos := "compat.go:166", after := #[{ on := 1, ground := Ground.data }, { on := 21, ground := Ground.data }], guard := none }) (v := ?_) rfl (by kernel_rfl) (by kernel_rfl) (by kernel_rfl) (fun _ _ _ h => h) (Or.inl ⟨by rfl, ?_⟩) hHeld ?_
                  rotate_left
                  · intro w hSw; (try dsimp only at hSw); (try go_split_ands); go_simp; (first | done | with_reducible rfl)
                  (try simp only [Act.put, List.setIfInBounds_toArray, List.set_cons_zero, List.set_cons_succ])
                  refine wpAnyH_take (i := 23) (oi := { dst := some 10, op := Op.assign (Operand.tmp 96), type := 4, pos := "compat.go:166", after := #[{ on := 22, ground := Ground.data }, { on := 11, ground := Ground.chain }, { on := 0, ground := Ground.phase }, { on := 1, ground := Ground.phase }, { on := 2, ground := Ground.phase }, { on := 3, ground := Ground.phase }, { on := 4, ground := Ground.phase }, { on := 5, ground := Ground.phase }, { on := 6, ground := Ground.phase }, { on := 7, ground := Ground.phase }, { on := 8, ground := Ground.phase }, { on := 9, ground := Ground.phase }, { on := 10, ground := Ground.phase }, { on := 11, ground := Ground.phase }, { on := 12, ground := Ground.phase }, { on := 13, ground := Ground.phase }, { on := 14, ground := Ground.phase }, { on := 15, ground := Ground.phase }, { on := 16, ground := Ground.phase }, { on := 17, ground := Ground.phase }, { on := 18, ground := Ground.phase }, { on := 19, ground := Ground.phase }, { on := 20, ground := Ground.phase }, { on := 21, ground := Ground.phase }, { on := 22, ground := Ground.phase }], guard := none }) (v := ?_) rfl (by kernel_rfl) (by kernel_rfl) (by kernel_rfl) (fun _ _ _ h => h) (Or.inl ⟨by rfl, ?_⟩) hHeld ?_
                  rotate_left
                  · intro w hSw; (try dsimp only at hSw); (try go_split_ands); go_simp; (first | done | with_reducible rfl)
                  (try simp only [Act.put, List.setIfInBounds_toArray, List.set_cons_zero, List.set_cons_succ])
                  refine wpAnyH_done (by kernel_rfl) ?_ _
                  refine NoPanic.normal ?_
                  go_wp2_with fail
                  exact ⟨⟨l + 1, hll, by go_num, by rw [HP.out]; rfl, HW7⟩, by simp [intOf]; omega⟩
              · obtain rfl : l = gn := by omega
                have hgt : gs.take l = gs := List.take_of_length_le (by rw [HFN.out.1]; exact Nat.le_refl _)
                rw [hgt]
                have HJq := Lib.hid (hq.out.below hp.out)
                obtain ⟨bb, hbb⟩ : ∃ bb, gs.any (fun y => sameV y ⟨xen, xev⟩) = bb := ⟨_, rfl⟩
                rw [hbb]
                have HBB := Lib.hid hbb
                obtain ⟨had2, had2B⟩ : ad2.block < wr.heap.size ∧ ad2.block < B := by
                  obtain ⟨ad', e', h1, h2, _⟩ := (HFx.out.below (HBq.out.mono HBs.out)).2 j _ HY.out
                  cases e'
                  exact ⟨h2, h1⟩
                have hv17 : v1.ownBlock ≠ some q7 := fun e => by
                  rcases hq.out.st.own _ e with h | h
                  · exact HZ1.out h
                  · omega
                have hv12 : v1.ownBlock ≠ some ad2.block := fun e => by
                  have := (hq.out.own.lt _ e).1
                  have := HBs.out
                  omega
                clear hbb hgt
                rcases bb with _ | _
                · go_wp2
                  have HO19 := Lib.hid (HJq.out.own.below ((below_drewN (Below.refl wr.heap.size wr) 1).alloc (Nat.le_refl _) (.cells #[.string nm, .string xen, .int .i64 xev, .int .i64 6, .bool true] 32)))
                  have HR19 : Hid (RS BrkV.cells 5 (wr.drew.alloc (.cells #[.string nm, .string xen, .int .i64 xev, .int .i64 6, .bool true] 32)) (wr.heap.size + 1) (some ⟨wr.heap.size, 0, none⟩) 1 [⟨nm, xen, xev, 6, true⟩]) := Lib.hid (by
                    have h := (Ew.lit (k := 5) BrkV.cells 32 (fun _ => rfl) wr.drew [⟨nm, xen, xev, 6, true⟩] (by simp)).rs (fun _ => rfl) (by omega)
                    have h2 : RS BrkV.cells 5 (wr.drew.alloc (.cells #[.string nm, .string xen, .int .i64 xev, .int .i64 6, .bool true] 32)) _ (some ⟨wr.drew.heap.size, 0, none⟩) 1 [⟨nm, xen, xev, 6, true⟩] := h
                    simpa using h2)
                  have HS19 : Hid (∀ W', Below wr.heap.size wr W' → ((W'.cell? ⟨q7, 0, none⟩ = some (.string nm) ∧ W'.cell? ⟨q7, 1, none⟩ = some (.slice (some ad2) xn xc)) ∧ (W'.cell? (ad2.add (j * 2)) = some (.string xen) ∧ W'.cell? ⟨(ad2.add (j * 2)).block, (ad2.add (j * 2)).off + 1, none⟩ = some (.int .i64 xev)))) := Lib.hid fun W' hb =>
                    ⟨⟨by rw [← r0]; exact cell_same (hb.block _ lr7), by rw [← r1]; exact cell_same (hb.block _ lr7)⟩, by rw [← b0]; exact cell_same (hb.block _ (by rw [add_block]; exact had2)), by rw [← b1]; exact cell_same (hb.block (ad2.add (j * 2)).block (by rw [add_block]; exact had2))⟩
                  go_region_held3 (fun W' => (W'.cell? ⟨q7, 0, none⟩ = some (.string nm) ∧ W'.cell? ⟨q7, 1, none⟩ = some (.slice (some ad2) xn xc)) ∧ (W'.cell? (ad2.add (j * 2)) = some (.string xen) ∧ W'.cell? ⟨(ad2.add (j * 2)).block, (ad2.add (j * 2)).off + 1, none⟩ = some (.int .i64 xev))) (first | exact HS19.out _ (Below.refl _ _) | exact HS19.out _ (below_drewN (Below.refl _ _) 1) | exact HS19.out _ ((below_drewN (Below.refl wr.heap.size wr) 1).alloc (Nat.le_refl _) _) | exact HS20.out) (first
                    | (refine step_app_e elBrkR _ (by rfl) (.tmp 99) (.tmp 115) (by rfl) base v1 L2 (by rfl) HO19.out (wr.heap.size + 1) (some ⟨wr.heap.size, 0, none⟩) 1 1 [⟨nm, xen, xev, 6, true⟩] (by rfl) HR19.out (by have := HL2.out; omega) (by have := HJq.out.st.size; simp [World.drew]; omega) ?_
                       intro A20 c20 w20 hown hg hv
                       have HO20 := Lib.hid hown
                       have HG20 := Lib.hid hg
                       have HV20 := Lib.hid hv
                       have HS20 : Hid ((w20.cell? ⟨q7, 0, none⟩ = some (.string nm) ∧ w20.cell? ⟨q7, 1, none⟩ = some (.slice (some ad2) xn xc)) ∧ (w20.cell? (ad2.add (j * 2)) = some (.string xen) ∧ w20.cell? ⟨(ad2.add (j * 2)).block, (ad2.add (j * 2)).off + 1, none⟩ = some (.int .i64 xev))) := Lib.hid (by
                         have hst := (GrSt.of_below ((below_drewN (Below.refl wr.heap.size wr) 1).alloc (Nat.le_refl _) (.cells #[.string nm, .string xen, .int .i64 xev, .int .i64 6, .bool true] 32))).trans (GrSt.of_grown hg hv)
                         exact ⟨⟨by rw [← r0]; exact cell_same (hst.block _ lr7 hv17), by rw [← r1]; exact cell_same (hst.block _ lr7 hv17)⟩, by rw [← b0]; exact cell_same (by rw [add_block]; exact hst.block _ had2 hv12), by rw [← b1]; exact cell_same (by show w20.heap[(ad2.add (j * 2)).block]? = wr.heap[(ad2.add (j * 2)).block]?; rw [add_block]; exact hst.block _ had2 hv12)⟩)
                       clear hown hg hv))
                  generalize Value.slice A20 (L2.length + 1) c20 = v20 at *
                  have HJ20 := Lib.hid (show RJ base w5 z1 (L1 ++ (xs.take (j + 1)).flatMap (evBrk nm gs)) w20 v20 from ⟨by
                    have e23 : L1 ++ (xs.take (j + 1)).flatMap (evBrk nm gs) = L2 ++ [⟨nm, xen, xev, 6, true⟩] := by
                      rw [HFT2.out, ← List.append_assoc, HLE2.out]
                      unfold evBrk
                      rw [HBB.out]
                      rfl
                    rw [e23]
                    exact HO20.out, HJq.out.st.trans ((GrSt.of_below ((below_drewN (Below.refl wr.heap.size wr) 1).alloc (Nat.le_refl _) (.cells #[.string nm, .string xen, .int .i64 xev, .int .i64 6, .bool true] 32))).trans (GrSt.of_grown HG20.out HV20.out))⟩)
                  clear HO19 HR19 HS19 HO20 HG20 HV20 HS20
                  go_wp2_with fail
                  exact ⟨⟨j + 1, _, by omega, by simp, rfl, HJ20⟩, by simp [intOf]; omega⟩
                · go_wp2
                  refine ⟨⟨j + 1, _, by omega, by simp, rfl, Lib.hid ⟨?_, HJq.out.st⟩⟩, by simp [intOf]; omega⟩
                  have e23 : L1 ++ (xs.take (j + 1)).flatMap (evBrk nm gs) = L2 := by
                    rw [HFT2.out, ← List.append_assoc, HLE2.out]
                    unfold evBrk
                    rw [HBB.out]
                    simp
                  rw [e23]
                  exact HJq.out.own
          · obtain rfl : j = xn := by omega
            have h1 := hq.out.own
            rw [List.take_of_length_le (by rw [HFx.out.1]; exact Nat.le_refl _)] at h1
            have HJ9 := Lib.hid (show RJ base w4 v4 (L0 ++ (es.take (k + 1)).flatMap qe) wr v1 from ⟨by
              rw [HFTe.out, ← List.append_assoc, HLQ.out, HQ2.out]
              exact h1, HW5.out.st.trans hq.out.st⟩)
            clear h1
            go_wp2
            exact ⟨⟨k + 1, _, by omega, by simp, rfl, HJ9⟩, by simp [intOf]; omega⟩
    · obtain rfl : k = en := by omega
      have hM := hh.out
      rw [show es.take k = es from List.take_of_length_le (by rw [HRA.out.e.1]; exact Nat.le_refl _)] at hM
      have HJE := Lib.hid hM
      have HA6 := Lib.hid (HA4.out.below HU.out (by omega))
      have HB6' := Lib.hid (HB4'.out.below HU.out (by omega))
      have hlE : (L0 ++ es.flatMap qe).length ≤ 3200 := by
        have := HLM.out; have h := HLE.out es.length; rw [List.take_length] at h; rw [List.length_append]; omega
      generalize hLE : L0 ++ es.flatMap qe = LE at *
      have HLEE := Lib.hid hLE
      clear hM hh hLE
      go_wp2
      obtain ⟨w6, rfl⟩ : ∃ w6, w6 = wr := ⟨_, rfl⟩
      go_loopw [13, 5] (fun i z wr => ∃ (k : Nat) (v : Value), k ≤ sn ∧ i = .int .i64 (k : Int) ∧ v = z ∧ Hid (RJ base w6 z1 (LE ++ (ss.take k).flatMap qs) wr v)) (fun i _ _ => sn - (intOf i).toNat)
      case atStart => exact ⟨0, _, Nat.zero_le _, rfl, rfl, Lib.hid ⟨by simpa using HJE.out.own, GrSt.refl _ _⟩⟩
      case round =>
        obtain ⟨k, z2, hk, rfl, rfl, hh⟩ := hrel
        have hu : Below base w6 wr := hh.out.st.under (fun g e => (HJE.out.own.lt g e).1) hszb
        have hb1 : Below w.heap.size w wr := HB1.out.trans (hu.mono (by omega))
        have hbA := HA6.out.below hu (by omega)
        have hbB := HB6'.out.below hu (by omega)
        have s22 := hbA.cell 2
        have s30 := hbB.cell 0
        have s31 := hbB.cell 1
        have s32 := hbB.cell 2
        have lA := hbA.lt
        have lB := hbB.lt
        simp only [List.getElem?_toArray, List.getElem?_cons_zero, List.getElem?_cons_succ] at s22 s30 s31 s32
        have HB7 := Lib.hid hb1
        have HBB7 := Lib.hid hbB
        have hszr : base ≤ wr.heap.size := Nat.le_trans hszb hu.size
        clear hu hb1 hbA hbB
        by_cases hlt : k < sn
        · obtain ⟨ad, x, e, hx, a0, a1⟩ := (HRA.out.below (HB7.out.mono HBs.out)).u.atS hlt
          have e : sA = some ad := e
          subst e
          have HX := Lib.hid (show ss[k]? = some x from hx)
          have HFTs := Lib.hid (flat_take qs ss k x hx)
          have HQx := Lib.hid (HQS.out x)
          have i0 : (0 : Int) ≤ (k : Int) := by omega
          have i1 : (k : Int) < (sn : Int) := by omega
          have hl1 : (LE ++ (ss.take k).flatMap qs).length ≤ 4800 := by
            have := HLS.out k; rw [List.length_append]; omega
          generalize hL1 : LE ++ (ss.take k).flatMap qs = L1 at hh hl1
          have HL1 := Lib.hid hl1
          have HLQ := Lib.hid hL1
          have HFx := Lib.hid (HRA.out.t x (List.mem_of_getElem? hx))
          have hfn : x.tn ≤ 40 := HZA.out.t x (List.mem_of_getElem? hx)
          obtain ⟨nm, xA, xn, xc, xs⟩ := x
          simp only at a0 a1 HQx HFx hfn
          have HQB : Hid (∀ t, mthBrk ⟨mA', mn', mc', ms', eA', en', ec', es', sA', sn', sc', ss'⟩ nm t = if ((mthAt ⟨mA', mn', mc', ms', eA', en', ec', es', sA', sn', sc', ss'⟩ nm t.nm).map fun d => sameM d t).getD false then [] else bothL ⟨nm, t.nm, 0, 7, false⟩) := Lib.hid fun _ => rfl
          have HQL := Lib.hid (mth_len ⟨mA', mn', mc', ms', eA', en', ec', es', sA', sn', sc', ss'⟩ nm)
          generalize hqb : mthBrk ⟨mA', mn', mc', ms', eA', en', ec', es', sA', sn', sc', ss'⟩ nm = qb at *
          clear hqb
          have hm8 : Blk (wr.alloc (.cells #[.string nm, .slice xA xn xc] 49)) wr.heap.size 49 #[.string nm, .slice xA xn xc] := Blk.new _ _ _
          have hb8 : Below wr.heap.size wr (wr.alloc (.cells #[.string nm, .slice xA xn xc] 49)) := (Below.refl _ _).alloc (Nat.le_refl _) _
          have HZ2 : Hid (z2.ownBlock ≠ some wr.heap.size) := Lib.hid (fun e => by have := (hh.out.own.lt _ e).2; omega)
          clear hx hl1 hL1
          go_wp2
          generalize hq14 : wr.heap.size = q14 at *
          generalize wr.alloc (.cells #[.string nm, .slice xA xn xc] 49) = w8 at *
          have HJ8 := Lib.hid (hh.out.below (by rw [hq14]; exact hb8))
          have HM8 := Lib.hid hm8
          have HBB8 := Lib.hid (HBB7.out.below hb8 (by omega))
          have HB8 := Lib.hid (HB7.out.trans (hb8.mono (by rw [← hq14]; exact HB7.out.size)))
          have l8 := hb8.size
          have lm8 := hm8.lt
          clear hm8 hb8 hh
          go_loopw [16, 15] (fun i z wq => ∃ l : Nat, l ≤ sn' ∧ i = .int .i64 (l : Int) ∧ z = .bool ((ss'.take l).any (fun y => sameT y.nm nm)) ∧ Hid (Below w8.heap.size w8 wq)) (fun i _ _ => sn' - (intOf i).toNat)
          case atStart => exact ⟨0, Nat.zero_le _, rfl, by simp, Lib.hid (Below.refl _ _)⟩
          case round =>
            obtain ⟨l, hl, rfl, rfl, hp⟩ := hrel
            have hm9 := HM8.out.below hp.out lm8
            have hB9 := HBB8.out.below hp.out HBB8.out.lt
            have hb9 := HB8.out.trans (hp.out.mono HB8.out.size)
            have r0 := hm9.cell 0
            have r1 := hm9.cell 1
            have s32 := hB9.cell 2
            have lr9 := hm9.lt
            have lB9 := hB9.lt
            simp only [List.getElem?_toArray, List.getElem?_cons_zero, List.getElem?_cons_succ] at r0 r1 s32
            have HB9 := Lib.hid hb9
            have HM9 := Lib.hid hm9
            have HBB9 := Lib.hid hB9
            clear hm9 hB9 hb9
            by_cases hll : l < sn'
            · obtain ⟨ag, y, e', hy, e0, e1⟩ := (HRB.out.below (HB9.out.mono HBs.out)).u.atS hll
              have e' : sA' = some ag := e'
              subst e'
              have HA := Lib.hid (any_succ ss' (fun y => sameT y.nm nm) l _ (show ss'[l]? = some y from hy))
              have l0 : (0 : Int) ≤ (l : Int) := by omega
              have l1 : (l : Int) < (sn' : Int) := by omega
              obtain ⟨yn, yA, yk, yc, ys⟩ := y
              simp only at e0 e1
              clear hy
              obtain ⟨bb, hbb⟩ : ∃ bb, (ss'.take l).any (fun y => sameT y.nm nm) = bb := ⟨_, rfl⟩
              rw [hbb] at HA ⊢
              clear hbb
              obtain ⟨bt, hbt⟩ : ∃ bt, (yn.toList == nm.toList) = bt := ⟨_, rfl⟩
              have HP : Hid ((ss'.take (l + 1)).any (fun y => sameT y.nm nm) = (bb || bt)) := Lib.hid (by
                rw [HA.out]
                show (bb || sameT yn nm) = _
                rw [show sameT yn nm = bt from hbt])
              clear HA
              have HS28 : Hid (∀ W', (W' = wr ∨ W' = wr.drew) → (W'.cell? ⟨w.heap.size + 1, 2, none⟩ = some (.slice (some ag) sn' sc') ∧ W'.cell? (ag.add (l * 2)) = some (.string yn) ∧ W'.cell? ⟨q14, 0, none⟩ = some (.string nm))) := Lib.hid (by
                rintro W' (rfl | rfl)
                · exact ⟨s32, e0, r0⟩
                · exact ⟨s32, e0, r0⟩)
              have HW9 := Lib.hid hp.out.drew
              rcases bb with _ | _
              · go_wp2
                refine wp_region_noPanic ?_
                refine wp_region_held_drew (S := (fun W' => W'.cell? ⟨w.heap.size + 1, 2, none⟩ = some (.slice (some ag) sn' sc') ∧ W'.cell? (ag.add (l * 2)) = some (.string yn) ∧ W'.cell? ⟨q14, 0, none⟩ = some (.string nm))) (by kernel_rfl) (HS28.out _ (.inr rfl)) (fun hHeld => ?_)
                refine wpAnyH_take (i := 0) (oi := { dst := some 136, op := Op.move (Operand.tmp 15), type := 4, pos := "compat.go:177", after := #[], guard := none }) (v := ?_) rfl (by kernel_rfl) (by kernel_rfl) (by kernel_rfl) (fun _ _ _ h => h) (Or.inl ⟨by rfl, ?_⟩) hHeld ?_
                rotate_left
                · intro w hSw; (try dsimp only at hSw); (try go_split_ands); go_simp; (first | done | with_reducible rfl)
                (try simp only [Act.put, List.setIfInBounds_toArray, List.set_cons_zero, List.set_cons_succ])
                refine wpAnyH_take (i := 1) (oi := { dst := some 137, op := Op.move (Operand.tmp 136), type := 4, pos := "compat.go:177", after := #[{ on := 0, ground := Ground.data }], guard := none }) (v := ?_) rfl (by kernel_rfl) (by kernel_rfl) (by kernel_rfl) (fun _ _ _ h => h) (Or.inl ⟨by rfl, ?_⟩) hHeld ?_
                rotate_left
                · intro w hSw; (try dsimp only at hSw); (try go_split_ands); go_simp; (first | done | with_reducible rfl)
                (try simp only [Act.put, List.setIfInBounds_toArray, List.set_cons_zero, List.set_cons_succ])
                refine wpAnyH_take (i := 2) (oi := { dst := some 138, op := Op.fieldAddr 26 (Operand.tmp 3) 2, type := 0, pos := "compat.go:177", after := #[{ on := 1, ground := Ground.guard }], guard := some (1, false) }) (v := ?_) rfl (by kernel_rfl) (by kernel_rfl) (by kernel_rfl) (fun _ _ _ h => h) (Or.inl ⟨by rfl, ?_⟩) hHeld ?_
                rotate_left
                · intro w hSw; (try dsimp only at hSw); (try go_split_ands); go_simp; (first | done | with_reducible rfl)
                (try simp only [Act.put, List.setIfInBounds_toArray, List.set_cons_zero, List.set_cons_succ])
                refine wpAnyH_take (i := 3) (oi := { dst := some 139, op := Op.load 24 (Operand.tmp 138), type := 24, pos := "compat.go:177", after := #[{ on := 2, ground := Ground.data }, { on := 1, ground := Ground.guard }], guard := some (1, false) }) (v := ?_) rfl (by kernel_rfl) (by kernel_rfl) (by kernel_rfl) (fun _ _ _ h => h) (Or.inl ⟨by rfl, ?_⟩) hHeld ?_
                rotate_left
                · intro w hSw; (try dsimp only at hSw); (try go_split_ands); go_simp; (first | done | with_reducible rfl)
                (try simp only [Act.put, List.setIfInBounds_toArray, List.set_cons_zero, List.set_cons_succ])
                refine wpAnyH_take (i := 4) (oi := { dst := some 140, op := Op.move (Operand.tmp 16), type := 3, pos := "compat.go:177", after := #[{ on := 1, ground := Ground.guard }], guard := some (1, false) }) (v := ?_) rfl (by kernel_rfl) (by kernel_rfl) (by kernel_rfl) (fun _ _ _ h => h) (Or.inl ⟨by rfl, ?_⟩) hHeld ?_
                rotate_left
                · intro w hSw; (try dsimp only at hSw); (try go_split_ands); go_simp; (first | done | with_reducible rfl)
                (try simp only [Act.put, List.setIfInBounds_toArray, List.set_cons_zero, List.set_cons_succ])
                refine wpAnyH_take (i := 5) (oi := { dst := some 141, op := Op.indexAddr 24 (Operand.tmp 139) (Operand.tmp 140), type := 0, pos := "compat.go:177", after := #[{ on := 3, ground := Ground.data }, { on := 4, ground := Ground.data }, { on := 1, ground := Ground.guard }], guard := some (1, false) }) (v := ?_) rfl (by kernel_rfl) (by kernel_rfl) (by kernel_rfl) (fun _ _ _ h => h) (Or.inl ⟨by rfl, ?_⟩) hHeld ?_
                rotate_left
                · intro w hSw; (try dsimp only at hSw); (try go_split_ands); go_simp; (first | done | with_reducible rfl)
                (try simp only [Act.put, List.setIfInBounds_toArray, List.set_cons_zero, List.set_cons_succ])
                refine wpAnyH_take (i := 6) (oi := { dst := some 142, op := Op.fieldAddr 49 (Operand.tmp 141) 0, type := 0, pos := "compat.go:177", after := #[{ on := 5, ground := Ground.data }, { on := 1, ground := Ground.guard }], guard := some (1, false) }) (v := ?_) rfl (by kernel_rfl) (by kernel_rfl) (by kernel_rfl) (fun _ _ _ h => h) (Or.inl ⟨by rfl, ?_⟩) hHeld ?_
                rotate_left
                · intro w hSw; (try dsimp only at hSw); (try go_split_ands); go_simp; (first | done | with_reducible rfl)
                (try simp only [Act.put, List.setIfInBounds_toArray, List.set_cons_zero, List.set_cons_succ])
                refine wpAnyH_take (i := 7) (oi := { dst := some 143, op := Op.load 9 (Operand.tmp 142), type := 9, pos := "compat.go:177", after := #[{ on := 6, ground := Ground.data }, { on := 1, ground := Ground.guard }], guard := some (1, false) }) (v := ?_) rfl (by kernel_rfl) (by kernel_rfl) (by kernel_rfl) (fun _ _ _ h => h) (Or.inl ⟨by rfl, ?_⟩) hHeld ?_
                rotate_left
                · intro w hSw; (try dsimp only at hSw); (try go_split_ands); go_simp; (first | done | with_reducible rfl)
                (try simp only [Act.put, List.setIfInBounds_toArray, List.set_cons_zero, List.set_cons_succ])
                refine wpAnyH_take (i := 8) (oi := { dst := some 144, op := Op.fieldAddr 49 (Operand.tmp 14) 0, type := 0, pos := "compat.go:177", after := #[{ on := 1, ground := Ground.guard }], guard := some (1, false) }) (v := ?_) rfl (by kernel_rfl) (by kernel_rfl) (by kernel_rfl) (fun _ _ _ h => h) (Or.inl ⟨by rfl, ?_⟩) hHeld ?_
                rotate_left
                · intro w hSw; (try dsimp only at hSw); (try go_split_ands); go_simp; (first | done | with_reducible rfl)
                (try simp only [Act.put, List.setIfInBounds_toArray, List.set_cons_zero, List.set_cons_succ])
                refine wpAnyH_take (i := 9) (oi := { dst := some 145, op := Op.load 9 (Operand.tmp 144), type := 9, pos := "compat.go:177", after := #[{ on := 8, ground := Ground.data }, { on := 1, ground := Ground.guard }], guard := some (1, false) }) (v := ?_) rfl (by kernel_rfl) (by kernel_rfl) (by kernel_rfl) (fun _ _ _ h => h) (Or.inl ⟨by rfl, ?_⟩) hHeld ?_
                rotate_left
                · intro w hSw; (try dsimp only at hSw); (try go_split_ands); go_simp; (first | done | with_reducible rfl)
                (try simp only [Act.put, List.setIfInBounds_toArray, List.set_cons_zero, List.set_cons_succ])
                refine wpAnyH_take (i := 10) (oi := { dst := some 146, op := Op.binOp BinOp.eql 9 (Operand.tmp 143) (Operand.tmp 145) 9, type := 4, pos := "compat.go:177", after := #[{ on := 7, ground := Ground.data }, { on := 9, ground := Ground.data }, { on := 1, ground := Ground.guard }], guard := some (1, false) }) (v := .bool bt) rfl (by kernel_rfl) (by kernel_rfl) (by kernel_rfl) (fun _ _ _ h => h) (Or.inl ⟨by rfl, ?_⟩) hHeld ?_
                · intro w hSw; (try dsimp only at hSw); (try go_split_ands); go_simp; (first | done | with_reducible rfl | simp [hbt])
                (try simp only [Act.put, List.setIfInBounds_toArray, List.set_cons_zero, List.set_cons_succ])
                refine wpAnyH_take (i := 11) (oi := { dst := some 147, op := Op.pick (Operand.tmp 137) (Operand.const (Value.bool true)) (Operand.tmp 146), type := 4, pos := "compat.go:177", after := #[{ on := 1, ground := Ground.data }, { on := 10, ground := Ground.data }], guard := none }) (v := ?_) rfl (by kernel_rfl) (by kernel_rfl) (by kernel_rfl) (fun _ _ _ h => h) (Or.inl ⟨by rfl, ?_⟩) hHeld ?_
                rotate_left
                · intro w hSw; (try dsimp only at hSw); (try go_split_ands); go_simp; (first | done | with_reducible rfl)
                (try simp only [Act.put, List.setIfInBounds_toArray, List.set_cons_zero, List.set_cons_succ])
                refine wpAnyH_take (i := 12) (oi := { dst := some 15, op := Op.assign (Operand.tmp 147), type := 4, pos := "compat.go:177", after := #[{ on := 11, ground := Ground.data }, { on := 1, ground := Ground.chain }, { on := 0, ground := Ground.phase }, { on := 1, ground := Ground.phase }, { on := 2, ground := Ground.phase }, { on := 3, ground := Ground.phase }, { on := 4, ground := Ground.phase }, { on := 5, ground := Ground.phase }, { on := 6, ground := Ground.phase }, { on := 7, ground := Ground.phase }, { on := 8, ground := Ground.phase }, { on := 9, ground := Ground.phase }, { on := 10, ground := Ground.phase }, { on := 11, ground := Ground.phase }], guard := none }) (v := ?_) rfl (by kernel_rfl) (by kernel_rfl) (by kernel_rfl) (fun _ _ _ h => h) (Or.inl ⟨by rfl, ?_⟩) hHeld ?_
                rotate_left
                · intro w hSw; (try dsimp only at hSw); (try go_split_ands); go_simp; (first | done | with_reducible rfl)
                (try simp only [Act.put, List.setIfInBounds_toArray, List.set_cons_zero, List.set_cons_succ])
                refine wpAnyH_done (by kernel_rfl) ?_ _
                refine NoPanic.normal ?_
                go_wp2_with fail
                exact ⟨⟨l + 1, hll, by go_num, by rw [HP.out]; simp, HW9⟩, by simp [intOf]; omega⟩
              · go_wp2
                refine wp_region_noPanic ?_
                refine wp_region_held_drew (S := (fun W' => W'.cell? ⟨w.heap.size + 1, 2, none⟩ = some (.slice (some ag) sn' sc') ∧ W'.cell? (ag.add (l * 2)) = some (.string yn) ∧ W'.cell? ⟨q14, 0, none⟩ = some (.string nm))) (by kernel_rfl) (HS28.out _ (.inr rfl)) (fun hHeld => ?_)
                refine wpAnyH_take (i := 0) (oi := { dst := some 136, op := Op.move (Operand.tmp 15), type := 4, pos := "compat.go:177", after := #[], guard := none }) (v := ?_) rfl (by kernel_rfl) (by kernel_rfl) (by kernel_rfl) (fun _ _ _ h => h) (Or.inl ⟨by rfl, ?_⟩) hHeld ?_
                rotate_left
                · intro w hSw; (try dsimp only at hSw); (try go_split_ands); go_simp; (first | done | with_reducible rfl)
                (try simp only [Act.put, List.setIfInBounds_toArray, List.set_cons_zero, List.set_cons_succ])
                refine wpAnyH_take (i := 1) (oi := { dst := some 137, op := Op.move (Operand.tmp 136), type := 4, pos := "compat.go:177", after := #[{ on := 0, ground := Ground.data }], guard := none }) (v := ?_) rfl (by kernel_rfl) (by kernel_rfl) (by kernel_rfl) (fun _ _ _ h => h) (Or.inl ⟨by rfl, ?_⟩) hHeld ?_
                rotate_left
                · intro w hSw; (try dsimp only at hSw); (try go_split_ands); go_simp; (first | done | with_reducible rfl)
                (try simp only [Act.put, List.setIfInBounds_toArray, List.set_cons_zero, List.set_cons_succ])
                refine wpAnyH_take (i := 2) (oi := { dst := some 138, op := Op.fieldAddr 26 (Operand.tmp 3) 2, type := 0, pos := "compat.go:177", after := #[{ on := 1, ground := Ground.guard }], guard := some (1, false) }) (v := undef) rfl (by kernel_rfl) (by kernel_rfl) (by kernel_rfl) (fun _ _ _ h => h) (Or.inr ⟨by rfl, rfl⟩) hHeld ?_
                (try simp only [Act.put, List.setIfInBounds_toArray, List.set_cons_zero, List.set_cons_succ])
                refine wpAnyH_take (i := 3) (oi := { dst := some 139, op := Op.load 24 (Operand.tmp 138), type := 24, pos := "compat.go:177", after := #[{ on := 2, ground := Ground.data }, { on := 1, ground := Ground.guard }], guard := some (1, false) }) (v := undef) rfl (by kernel_rfl) (by kernel_rfl) (by kernel_rfl) (fun _ _ _ h => h) (Or.inr ⟨by rfl, rfl⟩) hHeld ?_
                (try simp only [Act.put, List.setIfInBounds_toArray, List.set_cons_zero, List.set_cons_succ])
                refine wpAnyH_take (i := 4) (oi := { dst := some 140, op := Op.move (Operand.tmp 16), type := 3, pos := "compat.go:177", after := #[{ on := 1, ground := Ground.guard }], guard := some (1, false) }) (v := undef) rfl (by kernel_rfl) (by kernel_rfl) (by kernel_rfl) (fun _ _ _ h => h) (Or.inr ⟨by rfl, rfl⟩) hHeld ?_
                (try simp only [Act.put, List.setIfInBounds_toArray, List.set_cons_zero, List.set_cons_succ])
                refine wpAnyH_take (i := 5) (oi := { dst := some 141, op := Op.indexAddr 24 (Operand.tmp 139) (Operand.tmp 140), type := 0, pos := "compat.go:177", after := #[{ on := 3, ground := Ground.data }, { on := 4, ground := Ground.data }, { on := 1, ground := Ground.guard }], guard := some (1, false) }) (v := undef) rfl (by kernel_rfl) (by kernel_rfl) (by kernel_rfl) (fun _ _ _ h => h) (Or.inr ⟨by rfl, rfl⟩) hHeld ?_
                (try simp only [Act.put, List.setIfInBounds_toArray, List.set_cons_zero, List.set_cons_succ])
                refine wpAnyH_take (i := 6) (oi := { dst := some 142, op := Op.fieldAddr 49 (Operand.tmp 141) 0, type := 0, pos := "compat.go:177", after := #[{ on := 5, ground := Ground.data }, { on := 1, ground := Ground.guard }], guard := some (1, false) }) (v := undef) rfl (by kernel_rfl) (by kernel_rfl) (by kernel_rfl) (fun _ _ _ h => h) (Or.inr ⟨by rfl, rfl⟩) hHeld ?_
                (try simp only [Act.put, List.setIfInBounds_toArray, List.set_cons_zero, List.set_cons_succ])
                refine wpAnyH_take (i := 7) (oi := { dst := some 143, op := Op.load 9 (Operand.tmp 142), type := 9, pos := "compat.go:177", after := #[{ on := 6, ground := Ground.data }, { on := 1, ground := Ground.guard }], guard := some (1, false) }) (v := undef) rfl (by kernel_rfl) (by kernel_rfl) (by kernel_rfl) (fun _ _ _ h => h) (Or.inr ⟨by rfl, rfl⟩) hHeld ?_
                (try simp only [Act.put, List.setIfInBounds_toArray, List.set_cons_zero, List.set_cons_succ])
                refine wpAnyH_take (i := 8) (oi := { dst := some 144, op := Op.fieldAddr 49 (Operand.tmp 14) 0, type := 0, pos := "compat.go:177", after := #[{ on := 1, ground := Ground.guard }], guard := some (1, false) }) (v := undef) rfl (by kernel_rfl) (by kernel_rfl) (by kernel_rfl) (fun _ _ _ h => h) (Or.inr ⟨by rfl, rfl⟩) hHeld ?_
                (try simp only [Act.put, List.setIfInBounds_toArray, List.set_cons_zero, List.set_cons_succ])
                refine wpAnyH_take (i := 9) (oi := { dst := some 145, op := Op.load 9 (Operand.tmp 144), type := 9, pos := "compat.go:177", after := #[{ on := 8, ground := Ground.data }, { on := 1, ground := Ground.guard }], guard := some (1, false) }) (v := undef) rfl (by kernel_rfl) (by kernel_rfl) (by kernel_rfl) (fun _ _ _ h => h) (Or.inr ⟨by rfl, rfl⟩) hHeld ?_
                (try simp only [Act.put, List.setIfInBounds_toArray, List.set_cons_zero, List.set_cons_succ])
                refine wpAnyH_take (i := 10) (oi := { dst := some 146, op := Op.binOp BinOp.eql 9 (Operand.tmp 143) (Operand.tmp 145) 9, type := 4, pos := "compat.go:177", after := #[{ on := 7, ground := Ground.data }, { on := 9, ground := Ground.data }, { on := 1, ground := Ground.guard }], guard := some (1, false) }) (v := undef) rfl (by kernel_rfl) (by kernel_rfl) (by kernel_rfl) (fun _ _ _ h => h) (Or.inr ⟨by rfl, rfl⟩) hHeld ?_
                (try simp only [Act.put, List.setIfInBounds_toArray, List.set_cons_zero, List.set_cons_succ])
                refine wpAnyH_take (i := 11) (oi := { dst := some 147, op := Op.pick (Operand.tmp 137) (Operand.const (Value.bool true)) (Operand.tmp 146), type := 4, pos := "compat.go:177", after := #[{ on := 1, ground := Ground.data }, { on := 10, ground := Ground.data }], guard := none }) (v := ?_) rfl (by kernel_rfl) (by kernel_rfl) (by kernel_rfl) (fun _ _ _ h => h) (Or.inl ⟨by rfl, ?_⟩) hHeld ?_
                rotate_left
                · intro w hSw; (try dsimp only at hSw); (try go_split_ands); go_simp; (first | done | with_reducible rfl)
                (try simp only [Act.put, List.setIfInBounds_toArray, List.set_cons_zero, List.set_cons_succ])
                refine wpAnyH_take (i := 12) (oi := { dst := some 15, op := Op.assign (Operand.tmp 147), type := 4, pos := "compat.go:177", after := #[{ on := 11, ground := Ground.data }, { on := 1, ground := Ground.chain }, { on := 0, ground := Ground.phase }, { on := 1, ground := Ground.phase }, { on := 2, ground := Ground.phase }, { on := 3, ground := Ground.phase }, { on := 4, ground := Ground.phase }, { on := 5, ground := Ground.phase }, { on := 6, ground := Ground.phase }, { on := 7, ground := Ground.phase }, { on := 8, ground := Ground.phase }, { on := 9, ground := Ground.phase }, { on := 10, ground := Ground.phase }, { on := 11, ground := Ground.phase }], guard := none }) (v := ?_) rfl (by kernel_rfl) (by kernel_rfl) (by kernel_rfl) (fun _ _ _ h => h) (Or.inl ⟨by rfl, ?_⟩) hHeld ?_
                rotate_left
                · intro w hSw; (try dsimp only at hSw); (try go_split_ands); go_simp; (first | done | with_reducible rfl)
                (try simp only [Act.put, List.setIfInBounds_toArray, List.set_cons_zero, List.set_cons_succ])
                refine wpAnyH_done (by kernel_rfl) ?_ _
                refine NoPanic.normal ?_
                go_wp2_with fail
                exact ⟨⟨l + 1, hll, by go_num, by rw [HP.out]; rfl, HW9⟩, by simp [intOf]; omega⟩
            · obtain rfl : l = sn' := by omega
              have hgt : ss'.take l = ss' := List.take_of_length_le (by rw [HRB.out.u.1]; exact Nat.le_refl _)
              rw [hgt]
              have HJ9 := Lib.hid (HJ8.out.below hp.out)
              obtain ⟨bb, hbb⟩ : ∃ bb, ss'.any (fun y => sameT y.nm nm) = bb := ⟨_, rfl⟩
              rw [hbb] at HQx ⊢
              have hsz9 : base ≤ wr.heap.size := by have := hp.out.size; omega
              have HZ2' : Hid (∀ g, z2.ownBlock = some g → base ≤ g ∧ g ≠ q14) := Lib.hid (fun g e => ⟨(HJ8.out.own.lt g e).1, fun e' => HZ2.out (e' ▸ e)⟩)
              clear hbb hgt hp
              obtain ⟨w9, rfl⟩ : ∃ w9, w9 = wr := ⟨_, rfl⟩
              rcases bb with _ | _
              · go_wp2_with fail
                refine (bothR_any base w9 z2 L1 ⟨nm, empT, 0, 1, false⟩ HJ9.out.own (by omega) (by have := HL1.out; omega)).mono ?_
                rintro e w10 ⟨A10, c10, rfl, h10⟩
                generalize Value.slice A10 (L1 ++ bothL ⟨nm, empT, 0, 1, false⟩).length c10 = v10 at *
                have HJ10 := Lib.hid (show RJ base w6 z1 (LE ++ (ss.take (k + 1)).flatMap qs) w10 v10 from ⟨by
                  rw [HFTs.out, ← List.append_assoc, HLQ.out, HQx.out]
                  exact h10.out.own, HJ9.out.st.trans h10.out.st⟩)
                clear h10
                go_wp2_with fail
                exact ⟨⟨k + 1, _, by omega, by simp, rfl, HJ10⟩, by simp [intOf]; omega⟩
              · go_wp2_with fail
                go_loopw [17, 5] (fun i z wq => ∃ (j : Nat) (v : Value), j ≤ xn ∧ i = .int .i64 (j : Int) ∧ v = z ∧ Hid (RJ base w9 z2 (L1 ++ (xs.take j).flatMap qb) wq v)) (fun i _ _ => xn - (intOf i).toNat)
                case atStart => exact ⟨0, _, Nat.zero_le _, rfl, rfl, Lib.hid ⟨by simpa using HJ9.out.own, GrSt.refl _ _⟩⟩
                case round =>
                  obtain ⟨j, v1, hj, rfl, rfl, hq⟩ := hrel
                  have hu2 : Below base w9 wr := hq.out.st.under (fun g e => (HZ2'.out g e).1) hsz9
                  have hb6 : Below w.heap.size w wr := HB9.out.trans (hu2.mono (by omega))
                  have hm6 := hq.out.st.blk HM9.out (fun e => (HZ2'.out _ e).2 rfl)
                  have r0 := hm6.cell 0
                  have r1 := hm6.cell 1
                  have lr6 := hm6.lt
                  have hB6 := HBB9.out.below hu2 (by omega)
                  have s30 := hB6.cell 0
                  have s31 := hB6.cell 1
                  have s32 := hB6.cell 2
                  have lB6 := hB6.lt
                  simp only [List.getElem?_toArray, List.getElem?_cons_zero, List.getElem?_cons_succ] at r0 r1 s30 s31 s32
                  have HB6 := Lib.hid hb6
                  have HM6 := Lib.hid hm6
                  have HBB6 := Lib.hid hB6
                  clear hu2 hb6 hm6 hB6
                  by_cases hjl : j < xn
                  · obtain ⟨ad2, y, rfl, hy, b0, b1, b2, b3⟩ := (HFx.out.below (HB6.out.mono HBs.out)).atT hjl
                    have HFT2 := Lib.hid (flat_take qb xs j y hy)
                    have HQy := Lib.hid (HQB.out y)
                    have HY := Lib.hid hy
                    have j0 : (0 : Int) ≤ (j : Int) := by omega
                    have j1 : (j : Int) < (xn : Int) := by omega
                    obtain ⟨had2, had2B⟩ : ad2.block < wr.heap.size ∧ ad2.block < B := by
                      obtain ⟨ad', e', h1, h2, _⟩ := (HFx.out.below (HB6.out.mono HBs.out)).2 j _ hy
                      cases e'
                      exact ⟨h2, h1⟩
                    have hl2 : (L1 ++ (xs.take j).flatMap qb).length ≤ 10000 := by
                      have := HL1.out
                      have := flat_le qb HQL.out (xs.take j)
                      rw [List.length_append]
                      rw [List.length_take] at this
                      omega
                    generalize hL2 : L1 ++ (xs.take j).flatMap qb = L2 at hq hl2
                    have HL2 := Lib.hid hl2
                    have HLE2 := Lib.hid hL2
                    obtain ⟨yn, yi, yo, yk⟩ := y
                    simp only at b0 b1 b2 b3 HQy
                    have hv14 : v1.ownBlock ≠ some q14 := fun e => by
                      rcases hq.out.st.own _ e with h | h
                      · exact (HZ2'.out _ h).2 rfl
                      · have := HM9.out.lt; omega
                    have hv12 : v1.ownBlock ≠ some ad2.block := fun e => by
                      have := (hq.out.own.lt _ e).1
                      have := HBs.out
                      omega
                    have HFO : Hid (∀ W', Below wr.heap.size wr W' → Calls Try.prog 20 #[.agg #[.slice mA' mn' mc', .slice eA' en' ec', .slice sA' l sc'], .string nm, .string yn] W' (fun e w10 => ∃ (d1 d2 d3 : ByteArray) (d4 : Int) (ib : Bool), e = .returned (.tuple #[.agg #[.string d1, .string d2, .string d3, .int .i64 d4], .bool ib]) ∧ Hid (Below wr.heap.size wr w10 ∧ Below W'.heap.size W' w10 ∧ ((ib = false ∧ mthAt ⟨mA', mn', mc', ms', eA', en', ec', es', sA', l, sc', ss'⟩ nm yn = none) ∨ (ib = true ∧ mthAt ⟨mA', mn', mc', ms', eA', en', ec', es', sA', l, sc', ss'⟩ nm yn = some ⟨d1, d2, d3, d4⟩))))) := Lib.hid fun W' h => (HFT.out nm yn W' (HB6.out.trans (h.mono HB6.out.size))).mono (by
                      rintro e w10 hp10
                      obtain ⟨d1, d2, d3, d4, ib, e10, g10, hd10⟩ := hp10.form
                      exact ⟨d1, d2, d3, d4, ib, e10, Lib.hid ⟨h.trans (g10.mono h.size), g10, hd10⟩⟩)
                    clear hy hl2 hL2
                    go_wp2_with fail
                    have HS34 : Hid (∀ W', Below wr.heap.size wr W' → ((W'.cell? ⟨w.heap.size + 1, 0, none⟩ = some (.slice mA' mn' mc') ∧ W'.cell? ⟨w.heap.size + 1, 1, none⟩ = some (.slice eA' en' ec') ∧ W'.cell? ⟨w.heap.size + 1, 2, none⟩ = some (.slice sA' l sc')) ∧ (W'.cell? ⟨q14, 0, none⟩ = some (.string nm) ∧ W'.cell? ⟨q14, 1, none⟩ = some (.slice (some ad2) xn xc)) ∧ W'.cell? (ad2.add (j * 4)) = some (.string yn))) := Lib.hid fun W' hb =>
                      ⟨⟨by rw [← s30]; exact cell_same (hb.block _ lB6), by rw [← s31]; exact cell_same (hb.block _ lB6), by rw [← s32]; exact cell_same (hb.block _ lB6)⟩, ⟨by rw [← r0]; exact cell_same (hb.block _ lr6), by rw [← r1]; exact cell_same (hb.block _ lr6)⟩, by rw [← b0]; exact cell_same (hb.block _ (by rw [add_block]; exact had2))⟩
                    go_region_held3 (fun W' => (W'.cell? ⟨w.heap.size + 1, 0, none⟩ = some (.slice mA' mn' mc') ∧ W'.cell? ⟨w.heap.size + 1, 1, none⟩ = some (.slice eA' en' ec') ∧ W'.cell? ⟨w.heap.size + 1, 2, none⟩ = some (.slice sA' l sc')) ∧ (W'.cell? ⟨q14, 0, none⟩ = some (.string nm) ∧ W'.cell? ⟨q14, 1, none⟩ = some (.slice (some ad2) xn xc)) ∧ W'.cell? (ad2.add (j * 4)) = some (.string yn)) (first | with_reducible exact HS34.out _ (Below.refl _ _) | with_reducible exact HS34.out _ HB10.out | with_reducible exact HS34.out _ (HB10.out.alloc HB10.out.size _) | exact HS34.out _ ((((HB10.out.setCell (Nat.le_refl _) _).setCell (Nat.le_refl _) _).setCell (Nat.le_refl _) _).setCell (Nat.le_refl _) _) | exact HS34.out _ (below_drewN (Below.refl _ _) 1) | exact HS34.out _ ((Below.refl _ _).alloc (Nat.le_refl _) _).drew) (first
                      | (go_simp
                         go_at_call 20
                         refine (HFO.out _ (by first | exact below_drewN (Below.refl _ _) 1 | exact ((Below.refl _ _).alloc (Nat.le_refl _) _).drew)).mono ?_
                         rintro e w10 ⟨d1, d2, d3, d4, ib, rfl, hd10⟩
                         have HB10 := Lib.hid hd10.out.1
                         have HC10 := Lib.hid hd10.out.2.1
                         have HD10 := Lib.hid hd10.out.2.2
                         clear hd10
                         try
                           have hz := (show Blk (wr.alloc (.cells #[.string ⟨#[]⟩, .string ⟨#[]⟩, .string ⟨#[]⟩, .int .i64 0] 51)).drew wr.heap.size 51 #[.string ⟨#[]⟩, .string ⟨#[]⟩, .string ⟨#[]⟩, .int .i64 0] from Blk.new wr 51 #[.string ⟨#[]⟩, .string ⟨#[]⟩, .string ⟨#[]⟩, .int .i64 0]).below HC10.out (by simp [World.drew])
                           have e0 := hz.cell 0
                           have e1 := hz.cell 1
                           have e2 := hz.cell 2
                           have e3 := hz.cell 3
                           have q0 := hz.frozen 0
                           have q1 := hz.frozen 1
                           have q2 := hz.frozen 2
                           have q3 := hz.frozen 3
                           have HZ := Lib.hid hz
                           simp only [List.getElem?_toArray, List.getElem?_cons_zero, List.getElem?_cons_succ] at e0 e1 e2 e3
                           clear hz))
                    all_goals
                      first
                        | (have hz := HZ.out
                           have hm18 : Blk ((((w10.setCell ⟨wr.heap.size, 0, none⟩ (.string d1)).setCell ⟨wr.heap.size, 1, none⟩ (.string d2)).setCell ⟨wr.heap.size, 2, none⟩ (.string d3)).setCell ⟨wr.heap.size, 3, none⟩ (.int .i64 d4)) wr.heap.size 51 #[.string d1, .string d2, .string d3, .int .i64 d4] := (((hz.put 0 (.string d1)).put 1 (.string d2)).put 2 (.string d3)).put 3 (.int .i64 d4)
                           have hb18 : Below wr.heap.size wr ((((w10.setCell ⟨wr.heap.size, 0, none⟩ (.string d1)).setCell ⟨wr.heap.size, 1, none⟩ (.string d2)).setCell ⟨wr.heap.size, 2, none⟩ (.string d3)).setCell ⟨wr.heap.size, 3, none⟩ (.int .i64 d4)) := (((HB10.out.setCell (Nat.le_refl _) _).setCell (Nat.le_refl _) _).setCell (Nat.le_refl _) _).setCell (Nat.le_refl _) _
                           clear hz e0 e1 e2 e3 q0 q1 q2 q3 HZ
                           generalize ((((w10.setCell ⟨wr.heap.size, 0, none⟩ (.string d1)).setCell ⟨wr.heap.size, 1, none⟩ (.string d2)).setCell ⟨wr.heap.size, 2, none⟩ (.string d3)).setCell ⟨wr.heap.size, 3, none⟩ (.int .i64 d4)) = w11 at *
                           generalize hp18 : wr.heap.size = p18 at hm18 ⊢)
                        | (have hm18 : Blk (w10.alloc (.cells #[.string d1, .string d2, .string d3, .int .i64 d4] 51)) w10.heap.size 51 #[.string d1, .string d2, .string d3, .int .i64 d4] := Blk.new _ _ _
                           have hb18 : Below wr.heap.size wr (w10.alloc (.cells #[.string d1, .string d2, .string d3, .int .i64 d4] 51)) := HB10.out.alloc HB10.out.size _
                           generalize w10.alloc (.cells #[.string d1, .string d2, .string d3, .int .i64 d4] 51) = w11 at *
                           generalize hp18 : w10.heap.size = p18 at hm18 ⊢)
                      have HB11 := Lib.hid hb18
                      have HM18 := Lib.hid hm18
                      have lm18 := hm18.lt
                      have HS35 : Hid (∀ W', Below w11.heap.size w11 W' → ((W'.cell? ⟨p18, 0, none⟩ = some (.string d1) ∧ W'.cell? ⟨p18, 1, none⟩ = some (.string d2) ∧ W'.cell? ⟨p18, 2, none⟩ = some (.string d3) ∧ W'.cell? ⟨p18, 3, none⟩ = some (.int .i64 d4)) ∧ W'.cell? ⟨q14, 1, none⟩ = some (.slice (some ad2) xn xc) ∧ W'.cell? (ad2.add (j * 4)) = some (.string yn) ∧ W'.cell? ⟨(ad2.add (j * 4)).block, (ad2.add (j * 4)).off + 1, none⟩ = some (.string yi) ∧ W'.cell? ⟨(ad2.add (j * 4)).block, (ad2.add (j * 4)).off + 2, none⟩ = some (.string yo) ∧ W'.cell? ⟨(ad2.add (j * 4)).block, (ad2.add (j * 4)).off + 3, none⟩ = some (.int .i64 yk))) := Lib.hid fun W' hb => by
                        have hu3 := HB11.out.trans (hb.mono HB11.out.size)
                        have hm3 := HM18.out.below hb HM18.out.lt
                        have far : ∀ o : Nat, W'.cell? ⟨(ad2.add (j * 4)).block, o, none⟩ = wr.cell? ⟨(ad2.add (j * 4)).block, o, none⟩ := fun o => cell_same (hu3.block _ (by rw [add_block]; exact had2))
                        exact ⟨⟨hm3.cell 0, hm3.cell 1, hm3.cell 2, hm3.cell 3⟩, by rw [← r1]; exact cell_same (hu3.block _ lr6), by rw [← b0]; exact cell_same (hu3.block _ (by rw [add_block]; exact had2)), by rw [← b1]; exact far _, by rw [← b2]; exact far _, by rw [← b3]; exact far _⟩
                      obtain ⟨bs, hbs⟩ : ∃ bs, sameM ⟨d1, d2, d3, d4⟩ ⟨yn, yi, yo, yk⟩ = bs := ⟨_, rfl⟩
                      have HSM : Hid (∀ W', Calls Try.prog 21 #[.agg #[.string d1, .string d2, .string d3, .int .i64 d4], .agg #[.string yn, .string yi, .string yo, .int .i64 yk]] W' (fun e w12 => e = .returned (.bool bs) ∧ Below W'.heap.size W' w12)) := Lib.hid fun W' => by
                        have h := sameMethod_any ⟨d1, d2, d3, d4⟩ ⟨yn, yi, yo, yk⟩ W'
                        rw [hbs] at h
                        exact h
                      have HQz : Hid ((ib = false ∨ ib = true ∧ bs = false) ∧ qb ⟨yn, yi, yo, yk⟩ = bothL ⟨nm, yn, 0, 7, false⟩ ∨ (ib = true ∧ bs = true) ∧ qb ⟨yn, yi, yo, yk⟩ = []) := Lib.hid (by
                        have h := HQy.out
                        rcases HD10.out with ⟨hi, hm⟩ | ⟨hi, hm⟩
                        · rw [hm] at h
                          exact .inl ⟨.inl hi, h⟩
                        · rw [hm] at h
                          simp only [Option.map_some, Option.getD_some, hbs] at h
                          rcases bs with _ | _
                          · exact .inl ⟨.inr ⟨hi, rfl⟩, h⟩
                          · exact .inr ⟨⟨hi, rfl⟩, h⟩)
                      clear hbs HD10 HQy HFO HS34 hm18 hb18
                      go_wp2_with fail
                      rcases HQz.out with ⟨hc, hqz⟩ | ⟨⟨rfl, rfl⟩, hqz⟩
                      · have HQ := Lib.hid hqz
                        clear HQz hqz
                        rcases hc with rfl | ⟨rfl, rfl⟩
                        · have hb13 : Below w11.heap.size w11 w11.drew := (Below.refl _ _).drew
                          refine wp_region_noPanic ?_
                          refine wp_region_held_drew (S := (fun W' => (W'.cell? ⟨p18, 0, none⟩ = some (.string d1) ∧ W'.cell? ⟨p18, 1, none⟩ = some (.string d2) ∧ W'.cell? ⟨p18, 2, none⟩ = some (.string d3) ∧ W'.cell? ⟨p18, 3, none⟩ = some (.int .i64 d4)) ∧ W'.cell? ⟨q14, 1, none⟩ = some (.slice (some ad2) xn xc) ∧ W'.cell? (ad2.add (j * 4)) = some (.string yn) ∧ W'.cell? ⟨(ad2.add (j * 4)).block, (ad2.add (j * 4)).off + 1, none⟩ = some (.string yi) ∧ W'.cell? ⟨(ad2.add (j * 4)).block, (ad2.add (j * 4)).off + 2, none⟩ = some (.string yo) ∧ W'.cell? ⟨(ad2.add (j * 4)).block, (ad2.add (j * 4)).off + 3, none⟩ = some (.int .i64 yk))) (by kernel_rfl) (HS35.out _ (Below.refl _ _).drew) (fun hHeld => ?_)
                          refine wpAnyH_take (i := 0) (oi := { dst := some 175, op := Go.Op.move (Go.Operand.tmp 19), type := 4, pos := "compat.go:185", after := #[], guard := none }) (v := ?_) rfl (by kernel_rfl) (by kernel_rfl) (by kernel_rfl) (fun _ _ _ h => h) (Or.inl ⟨by rfl, ?_⟩) hHeld ?_
                          rotate_left
                          · intro w hSw; (try dsimp only at hSw); (try go_split_ands); go_simp; (first | done | with_reducible rfl)
                          (try simp only [Act.put, List.setIfInBounds_toArray, List.set_cons_zero, List.set_cons_succ])
                          refine wpAnyH_take (i := 1) (oi := { dst := some 176, op := Go.Op.unOp Go.UnOp.not 4 (Go.Operand.tmp 175), type := 4, pos := "compat.go:185", after := #[{ on := 0, ground := Go.Ground.data }], guard := none }) (v := ?_) rfl (by kernel_rfl) (by kernel_rfl) (by kernel_rfl) (fun _ _ _ h => h) (Or.inl ⟨by rfl, ?_⟩) hHeld ?_
                          rotate_left
                          · intro w hSw; (try dsimp only at hSw); (try go_split_ands); go_simp; (first | done | with_reducible rfl)
                          (try simp only [Act.put, List.setIfInBounds_toArray, List.set_cons_zero, List.set_cons_succ])
                          refine wpAnyH_take (i := 2) (oi := { dst := some 177, op := Go.Op.move (Go.Operand.tmp 176), type := 4, pos := "compat.go:185", after := #[{ on := 1, ground := Go.Ground.data }], guard := none }) (v := ?_) rfl (by kernel_rfl) (by kernel_rfl) (by kernel_rfl) (fun _ _ _ h => h) (Or.inl ⟨by rfl, ?_⟩) hHeld ?_
                          rotate_left
                          · intro w hSw; (try dsimp only at hSw); (try go_split_ands); go_simp; (first | done | with_reducible rfl)
                          (try simp only [Act.put, List.setIfInBounds_toArray, List.set_cons_zero, List.set_cons_succ])
                          refine wpAnyH_take (i := 3) (oi := { dst := some 178, op := Go.Op.load 51 (Go.Operand.tmp 18), type := 51, pos := "compat.go:185", after := #[{ on := 2, ground := Go.Ground.guard }], guard := some (2, false) }) (v := undef) rfl (by kernel_rfl) (by kernel_rfl) (by kernel_rfl) (fun _ _ _ h => h) (Or.inr ⟨by rfl, rfl⟩) hHeld ?_
                          (try simp only [Act.put, List.setIfInBounds_toArray, List.set_cons_zero, List.set_cons_succ])
                          refine wpAnyH_take (i := 4) (oi := { dst := some 179, op := Go.Op.fieldAddr 49 (Go.Operand.tmp 14) 1, type := 0, pos := "compat.go:185", after := #[{ on := 2, ground := Go.Ground.guard }], guard := some (2, false) }) (v := undef) rfl (by kernel_rfl) (by kernel_rfl) (by kernel_rfl) (fun _ _ _ h => h) (Or.inr ⟨by rfl, rfl⟩) hHeld ?_
                          (try simp only [Act.put, List.setIfInBounds_toArray, List.set_cons_zero, List.set_cons_succ])
                          refine wpAnyH_take (i := 5) (oi := { dst := some 180, op := Go.Op.load 47 (Go.Operand.tmp 179), type := 47, pos := "compat.go:185", after := #[{ on := 4, ground := Go.Ground.data }, { on := 2, ground := Go.Ground.guard }], guard := some (2, false) }) (v := undef) rfl (by kernel_rfl) (by kernel_rfl) (by kernel_rfl) (fun _ _ _ h => h) (Or.inr ⟨by rfl, rfl⟩) hHeld ?_
                          (try simp only [Act.put, List.setIfInBounds_toArray, List.set_cons_zero, List.set_cons_succ])
                          refine wpAnyH_take (i := 6) (oi := { dst := some 181, op := Go.Op.move (Go.Operand.tmp 17), type := 3, pos := "compat.go:185", after := #[{ on := 2, ground := Go.Ground.guard }], guard := some (2, false) }) (v := undef) rfl (by kernel_rfl) (by kernel_rfl) (by kernel_rfl) (fun _ _ _ h => h) (Or.inr ⟨by rfl, rfl⟩) hHeld ?_
                          (try simp only [Act.put, List.setIfInBounds_toArray, List.set_cons_zero, List.set_cons_succ])
                          refine wpAnyH_take (i := 7) (oi := { dst := some 182, op := Go.Op.indexAddr 47 (Go.Operand.tmp 180) (Go.Operand.tmp 181), type := 0, pos := "compat.go:185", after := #[{ on := 5, ground := Go.Ground.data }, { on := 6, ground := Go.Ground.data }, { on := 2, ground := Go.Ground.guard }], guard := some (2, false) }) (v := undef) rfl (by kernel_rfl) (by kernel_rfl) (by kernel_rfl) (fun _ _ _ h => h) (Or.inr ⟨by rfl, rfl⟩) hHeld ?_
                          (try simp only [Act.put, List.setIfInBounds_toArray, List.set_cons_zero, List.set_cons_succ])
                          refine wpAnyH_take (i := 8) (oi := { dst := some 183, op := Go.Op.load 51 (Go.Operand.tmp 182), type := 51, pos := "compat.go:185", after := #[{ on := 7, ground := Go.Ground.data }, { on := 2, ground := Go.Ground.guard }], guard := some (2, false) }) (v := undef) rfl (by kernel_rfl) (by kernel_rfl) (by kernel_rfl) (fun _ _ _ h => h) (Or.inr ⟨by rfl, rfl⟩) hHeld ?_
                          (try simp only [Act.put, List.setIfInBounds_toArray, List.set_cons_zero, List.set_cons_succ])
                          refine wpAnyH_take (i := 9) (oi := { dst := some 184, op := Go.Op.call { callee := Go.Callee.value (Go.Operand.func 21), args := #[Go.Operand.tmp 178, Go.Operand.tmp 183], argTypes := #[51, 51] }, type := 4, pos := "compat.go:185", after := #[{ on := 3, ground := Go.Ground.data }, { on := 8, ground := Go.Ground.data }, { on := 2, ground := Go.Ground.chain }, { on := 2, ground := Go.Ground.guard }], guard := some (2, false) }) (v := undef) rfl (by kernel_rfl) (by kernel_rfl) (by kernel_rfl) (fun _ _ _ h => h) (Or.inr ⟨by rfl, rfl⟩) hHeld ?_
                          (try simp only [Act.put, List.setIfInBounds_toArray, List.set_cons_zero, List.set_cons_succ])
                          refine wpAnyH_take (i := 10) (oi := { dst := some 185, op := Go.Op.unOp Go.UnOp.not 4 (Go.Operand.tmp 184), type := 4, pos := "compat.go:185", after := #[{ on := 9, ground := Go.Ground.data }, { on := 2, ground := Go.Ground.guard }], guard := some (2, false) }) (v := undef) rfl (by kernel_rfl) (by kernel_rfl) (by kernel_rfl) (fun _ _ _ h => h) (Or.inr ⟨by rfl, rfl⟩) hHeld ?_
                          (try simp only [Act.put, List.setIfInBounds_toArray, List.set_cons_zero, List.set_cons_succ])
                          refine wpAnyH_take (i := 11) (oi := { dst := some 186, op := Go.Op.pick (Go.Operand.tmp 177) (Go.Operand.const (Go.Value.bool true)) (Go.Operand.tmp 185), type := 4, pos := "compat.go:185", after := #[{ on := 2, ground := Go.Ground.data }, { on := 10, ground := Go.Ground.data }], guard := none }) (v := ?_) rfl (by kernel_rfl) (by kernel_rfl) (by kernel_rfl) (fun _ _ _ h => h) (Or.inl ⟨by rfl, ?_⟩) hHeld ?_
                          rotate_left
                          · intro w hSw; (try dsimp only at hSw); (try go_split_ands); go_simp; (first | done | with_reducible rfl)
                          (try simp only [Act.put, List.setIfInBounds_toArray, List.set_cons_zero, List.set_cons_succ])
                          refine wpAnyH_done (by kernel_rfl) ?_ _
                          refine NoPanic.normal ?_
                          have HB13 := Lib.hid (HB11.out.trans (hb13.mono HB11.out.size))
                          have hu13 := HB13.out
                          have HS36 : Hid (∀ W', Below wr.heap.size wr W' → (W'.cell? ⟨q14, 0, none⟩ = some (.string nm) ∧ W'.cell? ⟨q14, 1, none⟩ = some (.slice (some ad2) xn xc)) ∧ W'.cell? (ad2.add (j * 4)) = some (.string yn)) := Lib.hid fun W' hb =>
                            ⟨⟨by rw [← r0]; exact cell_same (hb.block _ lr6), by rw [← r1]; exact cell_same (hb.block _ lr6)⟩, by rw [← b0]; exact cell_same (hb.block _ (by rw [add_block]; exact had2))⟩
                          generalize w11.drew = w13 at *
                          have HBo : Hid (Calls Try.prog 19 #[v1, .agg #[.string nm, .string yn, .int .i64 0, .int .i64 7, .bool false]] w13.drew (GrowPost base w13.drew v1 (L2 ++ bothL ⟨nm, yn, 0, 7, false⟩))) := Lib.hid (bothR_any base w13.drew v1 L2 ⟨nm, yn, 0, 7, false⟩ (hq.out.own.below HB13.out.drew) (show base ≤ w13.heap.size by have := HB13.out.size; have := HJ9.out.st.size; have := hq.out.st.size; omega) (by have := HL2.out; omega))
                          go_wp2_with fail
                          refine wp_region_noPanic ?_
                          refine wp_region_held_drew (S := (fun W' => (W'.cell? ⟨q14, 0, none⟩ = some (.string nm) ∧ W'.cell? ⟨q14, 1, none⟩ = some (.slice (some ad2) xn xc)) ∧ W'.cell? (ad2.add (j * 4)) = some (.string yn))) (by kernel_rfl) (HS36.out _ HB13.out.drew) (fun hHeld => ?_)
                          refine wpAnyH_take (i := 0) (oi := { dst := some 187, op := Go.Op.move (Go.Operand.tmp 5), type := 29, pos := "compat.go:186", after := #[], guard := none }) (v := ?_) rfl (by kernel_rfl) (by kernel_rfl) (by kernel_rfl) (fun _ _ _ h => h) (Or.inl ⟨by rfl, ?_⟩) hHeld ?_
                          rotate_left
                          · intro w hSw; (try dsimp only at hSw); (try go_split_ands); go_simp; (first | done | with_reducible rfl)
                          (try simp only [Act.put, List.setIfInBounds_toArray, List.set_cons_zero, List.set_cons_succ])
                          refine wpAnyH_take (i := 1) (oi := { dst := some 188, op := Go.Op.fieldAddr 49 (Go.Operand.tmp 14) 0, type := 0, pos := "compat.go:186", after := #[], guard := none }) (v := ?_) rfl (by kernel_rfl) (by kernel_rfl) (by kernel_rfl) (fun _ _ _ h => h) (Or.inl ⟨by rfl, ?_⟩) hHeld ?_
                          rotate_left
                          · intro w hSw; (try dsimp only at hSw); (try go_split_ands); go_simp; (first | done | with_reducible rfl)
                          (try simp only [Act.put, List.setIfInBounds_toArray, List.set_cons_zero, List.set_cons_succ])
                          refine wpAnyH_take (i := 2) (oi := { dst := some 189, op := Go.Op.load 9 (Go.Operand.tmp 188), type := 9, pos := "compat.go:186", after := #[{ on := 1, ground := Go.Ground.data }], guard := none }) (v := ?_) rfl (by kernel_rfl) (by kernel_rfl) (by kernel_rfl) (fun _ _ _ h => h) (Or.inl ⟨by rfl, ?_⟩) hHeld ?_
                          rotate_left
                          · intro w hSw; (try dsimp only at hSw); (try go_split_ands); go_simp; (first | done | with_reducible rfl)
                          (try simp only [Act.put, List.setIfInBounds_toArray, List.set_cons_zero, List.set_cons_succ])
                          refine wpAnyH_take (i := 3) (oi := { dst := some 190, op := Go.Op.fieldAddr 49 (Go.Operand.tmp 14) 1, type := 0, pos := "compat.go:186", after := #[], guard := none }) (v := ?_) rfl (by kernel_rfl) (by kernel_rfl) (by kernel_rfl) (fun _ _ _ h => h) (Or.inl ⟨by rfl, ?_⟩) hHeld ?_
                          rotate_left
                          · intro w hSw; (try dsimp only at hSw); (try go_split_ands); go_simp; (first | done | with_reducible rfl)
                          (try simp only [Act.put, List.setIfInBounds_toArray, List.set_cons_zero, List.set_cons_succ])
                          refine wpAnyH_take (i := 4) (oi := { dst := some 191, op := Go.Op.load 47 (Go.Operand.tmp 190), type := 47, pos := "compat.go:186", after := #[{ on := 3, ground := Go.Ground.data }], guard := none }) (v := ?_) rfl (by kernel_rfl) (by kernel_rfl) (by kernel_rfl) (fun _ _ _ h => h) (Or.inl ⟨by rfl, ?_⟩) hHeld ?_
                          rotate_left
                          · intro w hSw; (try dsimp only at hSw); (try go_split_ands); go_simp; (first | done | with_reducible rfl)
                          (try simp only [Act.put, List.setIfInBounds_toArray, List.set_cons_zero, List.set_cons_succ])
                          refine wpAnyH_take (i := 5) (oi := { dst := some 192, op := Go.Op.move (Go.Operand.tmp 17), type := 3, pos := "compat.go:186", after := #[], guard := none }) (v := ?_) rfl (by kernel_rfl) (by kernel_rfl) (by kernel_rfl) (fun _ _ _ h => h) (Or.inl ⟨by rfl, ?_⟩) hHeld ?_
                          rotate_left
                          · intro w hSw; (try dsimp only at hSw); (try go_split_ands); go_simp; (first | done | with_reducible rfl)
                          (try simp only [Act.put, List.setIfInBounds_toArray, List.set_cons_zero, List.set_cons_succ])
                          refine wpAnyH_take (i := 6) (oi := { dst := some 193, op := Go.Op.indexAddr 47 (Go.Operand.tmp 191) (Go.Operand.tmp 192), type := 0, pos := "compat.go:186", after := #[{ on := 4, ground := Go.Ground.data }, { on := 5, ground := Go.Ground.data }], guard := none }) (v := ?_) rfl (by kernel_rfl) (by kernel_rfl) (by kernel_rfl) (fun _ _ _ h => h) (Or.inl ⟨by rfl, ?_⟩) hHeld ?_
                          rotate_left
                          · intro w hSw; (try dsimp only at hSw); (try go_split_ands); go_simp; (first | done | with_reducible rfl)
                          (try simp only [Act.put, List.setIfInBounds_toArray, List.set_cons_zero, List.set_cons_succ])
                          refine wpAnyH_take (i := 7) (oi := { dst := some 194, op := Go.Op.fieldAddr 51 (Go.Operand.tmp 193) 0, type := 0, pos := "compat.go:186", after := #[{ on := 6, ground := Go.Ground.data }], guard := none }) (v := ?_) rfl (by kernel_rfl) (by kernel_rfl) (by kernel_rfl) (fun _ _ _ h => h) (Or.inl ⟨by rfl, ?_⟩) hHeld ?_
                          rotate_left
                          · intro w hSw; (try dsimp only at hSw); (try go_split_ands); go_simp; (first | done | with_reducible rfl)
                          (try simp only [Act.put, List.setIfInBounds_toArray, List.set_cons_zero, List.set_cons_succ])
                          refine wpAnyH_take (i := 8) (oi := { dst := some 195, op := Go.Op.load 9 (Go.Operand.tmp 194), type := 9, pos := "compat.go:186", after := #[{ on := 7, ground := Go.Ground.data }], guard := none }) (v := ?_) rfl (by kernel_rfl) (by kernel_rfl) (by kernel_rfl) (fun _ _ _ h => h) (Or.inl ⟨by rfl, ?_⟩) hHeld ?_
                          rotate_left
                          · intro w hSw; (try dsimp only at hSw); (try go_split_ands); go_simp; (first | done | with_reducible rfl)
                          (try simp only [Act.put, List.setIfInBounds_toArray, List.set_cons_zero, List.set_cons_succ])
                          refine wpAnyH_take (i := 9) (oi := { dst := some 196, op := Go.Op.build 32 #[(0, Go.Operand.tmp 189), (1, Go.Operand.tmp 195), (3, Go.Operand.const (Go.Value.int Go.IntKind.i64 7))], type := 32, pos := "compat.go:186", after := #[{ on := 2, ground := Go.Ground.data }, { on := 8, ground := Go.Ground.data }], guard := none }) (v := ?_) rfl (by kernel_rfl) (by kernel_rfl) (by kernel_rfl) (fun _ _ _ h => h) (Or.inl ⟨by rfl, ?_⟩) hHeld ?_
                          rotate_left
                          · intro w hSw; (try dsimp only at hSw); (try go_split_ands); go_simp; (first | done | with_reducible rfl)
                          (try simp only [Act.put, List.setIfInBounds_toArray, List.set_cons_zero, List.set_cons_succ])
                          refine wpAnyH_ready (rs := [10]) (by kernel_rfl) (by simp) ?_
                          refine AllReadyH.cons (o := { dst := some 197, op := Go.Op.call { callee := Go.Callee.value (Go.Operand.func 19), args := #[Go.Operand.tmp 187, Go.Operand.tmp 196], argTypes := #[29, 32] }, type := 29, pos := "compat.go:186", after := #[{ on := 0, ground := Go.Ground.data }, { on := 9, ground := Go.Ground.data }], guard := none }) rfl (fun K hK => ?_) AllReadyH.nil
                          go_simp
                          go_at_call 19
                          refine HBo.out.mono ?_
                          rintro e w14 ⟨A14, c14, rfl, h14⟩
                          generalize Value.slice A14 (L2 ++ bothL ⟨nm, yn, 0, 7, false⟩).length c14 = v14 at *
                          have hst := (GrSt.of_below HB13.out.drew).trans h14.out.st
                          have HS14 : Hid ((w14.cell? ⟨q14, 0, none⟩ = some (.string nm) ∧ w14.cell? ⟨q14, 1, none⟩ = some (.slice (some ad2) xn xc)) ∧ w14.cell? (ad2.add (j * 4)) = some (.string yn)) := Lib.hid ⟨⟨by rw [← r0]; exact cell_same (hst.block _ lr6 hv14), by rw [← r1]; exact cell_same (hst.block _ lr6 hv14)⟩, by rw [← b0]; exact cell_same (by rw [add_block]; exact hst.block _ had2 hv12)⟩
                          have HJ14 := Lib.hid (show RJ base w9 z2 (L1 ++ (xs.take (j + 1)).flatMap qb) w14 v14 from ⟨by
                            rw [HFT2.out, ← List.append_assoc, HLE2.out, HQ.out]
                            exact h14.out.own, hq.out.st.trans hst⟩)
                          clear h14 hst
                          refine hK.out _ _ HS14.out (fun hHeld2 => ?_)
                          clear hHeld
                          have hHeld := hHeld2
                          clear hHeld2 hK K
                          (try simp only [Act.put, List.setIfInBounds_toArray, List.set_cons_zero, List.set_cons_succ])
                          refine wpAnyH_take (i := 11) (oi := { dst := some 5, op := Go.Op.assign (Go.Operand.tmp 197), type := 29, pos := "compat.go:186", after := #[{ on := 10, ground := Go.Ground.data }, { on := 10, ground := Go.Ground.chain }, { on := 0, ground := Go.Ground.phase }, { on := 1, ground := Go.Ground.phase }, { on := 2, ground := Go.Ground.phase }, { on := 3, ground := Go.Ground.phase }, { on := 4, ground := Go.Ground.phase }, { on := 5, ground := Go.Ground.phase }, { on := 6, ground := Go.Ground.phase }, { on := 7, ground := Go.Ground.phase }, { on := 8, ground := Go.Ground.phase }, { on := 9, ground := Go.Ground.phase }, { on := 10, ground := Go.Ground.phase }], guard := none }) (v := ?_) rfl (by kernel_rfl) (by kernel_rfl) (by kernel_rfl) (fun _ _ _ h => h) (Or.inl ⟨by rfl, ?_⟩) hHeld ?_
                          rotate_left
                          · intro w hSw; (try dsimp only at hSw); (try go_split_ands); go_simp; (first | done | with_reducible rfl)
                          (try simp only [Act.put, List.setIfInBounds_toArray, List.set_cons_zero, List.set_cons_succ])
                          refine wpAnyH_done (by kernel_rfl) ?_ _
                          refine NoPanic.normal ?_
                          go_wp2_with fail
                          exact ⟨⟨j + 1, _, by omega, by simp, rfl, HJ14⟩, by simp [intOf]; omega⟩
                        · skip
                          refine wp_region_noPanic ?_
                          refine wp_region_held_drew (S := (fun W' => (W'.cell? ⟨p18, 0, none⟩ = some (.string d1) ∧ W'.cell? ⟨p18, 1, none⟩ = some (.string d2) ∧ W'.cell? ⟨p18, 2, none⟩ = some (.string d3) ∧ W'.cell? ⟨p18, 3, none⟩ = some (.int .i64 d4)) ∧ W'.cell? ⟨q14, 1, none⟩ = some (.slice (some ad2) xn xc) ∧ W'.cell? (ad2.add (j * 4)) = some (.string yn) ∧ W'.cell? ⟨(ad2.add (j * 4)).block, (ad2.add (j * 4)).off + 1, none⟩ = some (.string yi) ∧ W'.cell? ⟨(ad2.add (j * 4)).block, (ad2.add (j * 4)).off + 2, none⟩ = some (.string yo) ∧ W'.cell? ⟨(ad2.add (j * 4)).block, (ad2.add (j * 4)).off + 3, none⟩ = some (.int .i64 yk))) (by kernel_rfl) (HS35.out _ (Below.refl _ _).drew) (fun hHeld => ?_)
                          refine wpAnyH_take (i := 0) (oi := { dst := some 175, op := Go.Op.move (Go.Operand.tmp 19), type := 4, pos := "compat.go:185", after := #[], guard := none }) (v := ?_) rfl (by kernel_rfl) (by kernel_rfl) (by kernel_rfl) (fun _ _ _ h => h) (Or.inl ⟨by rfl, ?_⟩) hHeld ?_
                          rotate_left
                          · intro w hSw; (try dsimp only at hSw); (try go_split_ands); go_simp; (first | done | with_reducible rfl)
                          (try simp only [Act.put, List.setIfInBounds_toArray, List.set_cons_zero, List.set_cons_succ])
                          refine wpAnyH_take (i := 1) (oi := { dst := some 176, op := Go.Op.unOp Go.UnOp.not 4 (Go.Operand.tmp 175), type := 4, pos := "compat.go:185", after := #[{ on := 0, ground := Go.Ground.data }], guard := none }) (v := ?_) rfl (by kernel_rfl) (by kernel_rfl) (by kernel_rfl) (fun _ _ _ h => h) (Or.inl ⟨by rfl, ?_⟩) hHeld ?_
                          rotate_left
                          · intro w hSw; (try dsimp only at hSw); (try go_split_ands); go_simp; (first | done | with_reducible rfl)
                          (try simp only [Act.put, List.setIfInBounds_toArray, List.set_cons_zero, List.set_cons_succ])
                          refine wpAnyH_take (i := 2) (oi := { dst := some 177, op := Go.Op.move (Go.Operand.tmp 176), type := 4, pos := "compat.go:185", after := #[{ on := 1, ground := Go.Ground.data }], guard := none }) (v := ?_) rfl (by kernel_rfl) (by kernel_rfl) (by kernel_rfl) (fun _ _ _ h => h) (Or.inl ⟨by rfl, ?_⟩) hHeld ?_
                          rotate_left
                          · intro w hSw; (try dsimp only at hSw); (try go_split_ands); go_simp; (first | done | with_reducible rfl)
                          (try simp only [Act.put, List.setIfInBounds_toArray, List.set_cons_zero, List.set_cons_succ])
                          refine wpAnyH_take (i := 3) (oi := { dst := some 178, op := Go.Op.load 51 (Go.Operand.tmp 18), type := 51, pos := "compat.go:185", after := #[{ on := 2, ground := Go.Ground.guard }], guard := some (2, false) }) (v := ?_) rfl (by kernel_rfl) (by kernel_rfl) (by kernel_rfl) (fun _ _ _ h => h) (Or.inl ⟨by rfl, ?_⟩) hHeld ?_
                          rotate_left
                          · intro w hSw; (try dsimp only at hSw); (try go_split_ands); go_simp; (first | done | with_reducible rfl)
                          (try simp only [Act.put, List.setIfInBounds_toArray, List.set_cons_zero, List.set_cons_succ])
                          refine wpAnyH_take (i := 4) (oi := { dst := some 179, op := Go.Op.fieldAddr 49 (Go.Operand.tmp 14) 1, type := 0, pos := "compat.go:185", after := #[{ on := 2, ground := Go.Ground.guard }], guard := some (2, false) }) (v := ?_) rfl (by kernel_rfl) (by kernel_rfl) (by kernel_rfl) (fun _ _ _ h => h) (Or.inl ⟨by rfl, ?_⟩) hHeld ?_
                          rotate_left
                          · intro w hSw; (try dsimp only at hSw); (try go_split_ands); go_simp; (first | done | with_reducible rfl)
                          (try simp only [Act.put, List.setIfInBounds_toArray, List.set_cons_zero, List.set_cons_succ])
                          refine wpAnyH_take (i := 5) (oi := { dst := some 180, op := Go.Op.load 47 (Go.Operand.tmp 179), type := 47, pos := "compat.go:185", after := #[{ on := 4, ground := Go.Ground.data }, { on := 2, ground := Go.Ground.guard }], guard := some (2, false) }) (v := ?_) rfl (by kernel_rfl) (by kernel_rfl) (by kernel_rfl) (fun _ _ _ h => h) (Or.inl ⟨by rfl, ?_⟩) hHeld ?_
                          rotate_left
                          · intro w hSw; (try dsimp only at hSw); (try go_split_ands); go_simp; (first | done | with_reducible rfl)
                          (try simp only [Act.put, List.setIfInBounds_toArray, List.set_cons_zero, List.set_cons_succ])
                          refine wpAnyH_take (i := 6) (oi := { dst := some 181, op := Go.Op.move (Go.Operand.tmp 17), type := 3, pos := "compat.go:185", after := #[{ on := 2, ground := Go.Ground.guard }], guard := some (2, false) }) (v := ?_) rfl (by kernel_rfl) (by kernel_rfl) (by kernel_rfl) (fun _ _ _ h => h) (Or.inl ⟨by rfl, ?_⟩) hHeld ?_
                          rotate_left
                          · intro w hSw; (try dsimp only at hSw); (try go_split_ands); go_simp; (first | done | with_reducible rfl)
                          (try simp only [Act.put, List.setIfInBounds_toArray, List.set_cons_zero, List.set_cons_succ])
                          refine wpAnyH_take (i := 7) (oi := { dst := some 182, op := Go.Op.indexAddr 47 (Go.Operand.tmp 180) (Go.Operand.tmp 181), type := 0, pos := "compat.go:185", after := #[{ on := 5, ground := Go.Ground.data }, { on := 6, ground := Go.Ground.data }, { on := 2, ground := Go.Ground.guard }], guard := some (2, false) }) (v := ?_) rfl (by kernel_rfl) (by kernel_rfl) (by kernel_rfl) (fun _ _ _ h => h) (Or.inl ⟨by rfl, ?_⟩) hHeld ?_
                          rotate_left
                          · intro w hSw; (try dsimp only at hSw); (try go_split_ands); go_simp; (first | done | with_reducible rfl)
                          (try simp only [Act.put, List.setIfInBounds_toArray, List.set_cons_zero, List.set_cons_succ])
                          refine wpAnyH_take (i := 8) (oi := { dst := some 183, op := Go.Op.load 51 (Go.Operand.tmp 182), type := 51, pos := "compat.go:185", after := #[{ on := 7, ground := Go.Ground.data }, { on := 2, ground := Go.Ground.guard }], guard := some (2, false) }) (v := ?_) rfl (by kernel_rfl) (by kernel_rfl) (by kernel_rfl) (fun _ _ _ h => h) (Or.inl ⟨by rfl, ?_⟩) hHeld ?_
                          rotate_left
                          · intro w hSw; (try dsimp only at hSw); (try go_split_ands); go_simp; (first | done | with_reducible rfl)
                          (try simp only [Act.put, List.setIfInBounds_toArray, List.set_cons_zero, List.set_cons_succ])
                          refine wpAnyH_ready (rs := [9]) (by kernel_rfl) (by simp) ?_
                          refine AllReadyH.cons (o := { dst := some 184, op := Go.Op.call { callee := Go.Callee.value (Go.Operand.func 21), args := #[Go.Operand.tmp 178, Go.Operand.tmp 183], argTypes := #[51, 51] }, type := 4, pos := "compat.go:185", after := #[{ on := 3, ground := Go.Ground.data }, { on := 8, ground := Go.Ground.data }, { on := 2, ground := Go.Ground.chain }, { on := 2, ground := Go.Ground.guard }], guard := some (2, false) }) rfl (fun K hK => ?_) AllReadyH.nil
                          go_simp
                          go_at_call 21
                          refine (HSM.out _).mono ?_
                          rintro e w12 ⟨rfl, h12⟩
                          have HB12 := Lib.hid (below_of_drew h12)
                          clear h12
                          refine hK.out _ _ (HS35.out _ HB12.out) (fun hHeld2 => ?_)
                          clear hHeld
                          have hHeld := hHeld2
                          clear hHeld2 hK K
                          (try simp only [Act.put, List.setIfInBounds_toArray, List.set_cons_zero, List.set_cons_succ])
                          refine wpAnyH_take (i := 10) (oi := { dst := some 185, op := Go.Op.unOp Go.UnOp.not 4 (Go.Operand.tmp 184), type := 4, pos := "compat.go:185", after := #[{ on := 9, ground := Go.Ground.data }, { on := 2, ground := Go.Ground.guard }], guard := some (2, false) }) (v := ?_) rfl (by kernel_rfl) (by kernel_rfl) (by kernel_rfl) (fun _ _ _ h => h) (Or.inl ⟨by rfl, ?_⟩) hHeld ?_
                          rotate_left
                          · intro w hSw; (try dsimp only at hSw); (try go_split_ands); go_simp; (first | done | with_reducible rfl)
                          (try simp only [Act.put, List.setIfInBounds_toArray, List.set_cons_zero, List.set_cons_succ])
                          refine wpAnyH_take (i := 11) (oi := { dst := some 186, op := Go.Op.pick (Go.Operand.tmp 177) (Go.Operand.const (Go.Value.bool true)) (Go.Operand.tmp 185), type := 4, pos := "compat.go:185", after := #[{ on := 2, ground := Go.Ground.data }, { on := 10, ground := Go.Ground.data }], guard := none }) (v := ?_) rfl (by kernel_rfl) (by kernel_rfl) (by kernel_rfl) (fun _ _ _ h => h) (Or.inl ⟨by rfl, ?_⟩) hHeld ?_
                          rotate_left
                          · intro w hSw; (try dsimp only at hSw); (try go_split_ands); go_simp; (first | done | with_reducible rfl)
                          (try simp only [Act.put, List.setIfInBounds_toArray, List.set_cons_zero, List.set_cons_succ])
                          refine wpAnyH_done (by kernel_rfl) ?_ _
                          refine NoPanic.normal ?_
                          have hb13 := HB12.out
                          have HB13 := Lib.hid (HB11.out.trans (hb13.mono HB11.out.size))
                          have hu13 := HB13.out
                          have HS36 : Hid (∀ W', Below wr.heap.size wr W' → (W'.cell? ⟨q14, 0, none⟩ = some (.string nm) ∧ W'.cell? ⟨q14, 1, none⟩ = some (.slice (some ad2) xn xc)) ∧ W'.cell? (ad2.add (j * 4)) = some (.string yn)) := Lib.hid fun W' hb =>
                            ⟨⟨by rw [← r0]; exact cell_same (hb.block _ lr6), by rw [← r1]; exact cell_same (hb.block _ lr6)⟩, by rw [← b0]; exact cell_same (hb.block _ (by rw [add_block]; exact had2))⟩
                          generalize w12 = w13 at *
                          have HBo : Hid (Calls Try.prog 19 #[v1, .agg #[.string nm, .string yn, .int .i64 0, .int .i64 7, .bool false]] w13.drew (GrowPost base w13.drew v1 (L2 ++ bothL ⟨nm, yn, 0, 7, false⟩))) := Lib.hid (bothR_any base w13.drew v1 L2 ⟨nm, yn, 0, 7, false⟩ (hq.out.own.below HB13.out.drew) (show base ≤ w13.heap.size by have := HB13.out.size; have := HJ9.out.st.size; have := hq.out.st.size; omega) (by have := HL2.out; omega))
                          go_wp2_with fail
                          refine wp_region_noPanic ?_
                          refine wp_region_held_drew (S := (fun W' => (W'.cell? ⟨q14, 0, none⟩ = some (.string nm) ∧ W'.cell? ⟨q14, 1, none⟩ = some (.slice (some ad2) xn xc)) ∧ W'.cell? (ad2.add (j * 4)) = some (.string yn))) (by kernel_rfl) (HS36.out _ HB13.out.drew) (fun hHeld => ?_)
                          refine wpAnyH_take (i := 0) (oi := { dst := some 187, op := Go.Op.move (Go.Operand.tmp 5), type := 29, pos := "compat.go:186", after := #[], guard := none }) (v := ?_) rfl (by kernel_rfl) (by kernel_rfl) (by kernel_rfl) (fun _ _ _ h => h) (Or.inl ⟨by rfl, ?_⟩) hHeld ?_
                          rotate_left
                          · intro w hSw; (try dsimp only at hSw); (try go_split_ands); go_simp; (first | done | with_reducible rfl)
                          (try simp only [Act.put, List.setIfInBounds_toArray, List.set_cons_zero, List.set_cons_succ])
                          refine wpAnyH_take (i := 1) (oi := { dst := some 188, op := Go.Op.fieldAddr 49 (Go.Operand.tmp 14) 0, type := 0, pos := "compat.go:186", after := #[], guard := none }) (v := ?_) rfl (by kernel_rfl) (by kernel_rfl) (by kernel_rfl) (fun _ _ _ h => h) (Or.inl ⟨by rfl, ?_⟩) hHeld ?_
                          rotate_left
                          · intro w hSw; (try dsimp only at hSw); (try go_split_ands); go_simp; (first | done | with_reducible rfl)
                          (try simp only [Act.put, List.setIfInBounds_toArray, List.set_cons_zero, List.set_cons_succ])
                          refine wpAnyH_take (i := 2) (oi := { dst := some 189, op := Go.Op.load 9 (Go.Operand.tmp 188), type := 9, pos := "compat.go:186", after := #[{ on := 1, ground := Go.Ground.data }], guard := none }) (v := ?_) rfl (by kernel_rfl) (by kernel_rfl) (by kernel_rfl) (fun _ _ _ h => h) (Or.inl ⟨by rfl, ?_⟩) hHeld ?_
                          rotate_left
                          · intro w hSw; (try dsimp only at hSw); (try go_split_ands); go_simp; (first | done | with_reducible rfl)
                          (try simp only [Act.put, List.setIfInBounds_toArray, List.set_cons_zero, List.set_cons_succ])
                          refine wpAnyH_take (i := 3) (oi := { dst := some 190, op := Go.Op.fieldAddr 49 (Go.Operand.tmp 14) 1, type := 0, pos := "compat.go:186", after := #[], guard := none }) (v := ?_) rfl (by kernel_rfl) (by kernel_rfl) (by kernel_rfl) (fun _ _ _ h => h) (Or.inl ⟨by rfl, ?_⟩) hHeld ?_
                          rotate_left
                          · intro w hSw; (try dsimp only at hSw); (try go_split_ands); go_simp; (first | done | with_reducible rfl)
                          (try simp only [Act.put, List.setIfInBounds_toArray, List.set_cons_zero, List.set_cons_succ])
                          refine wpAnyH_take (i := 4) (oi := { dst := some 191, op := Go.Op.load 47 (Go.Operand.tmp 190), type := 47, pos := "compat.go:186", after := #[{ on := 3, ground := Go.Ground.data }], guard := none }) (v := ?_) rfl (by kernel_rfl) (by kernel_rfl) (by kernel_rfl) (fun _ _ _ h => h) (Or.inl ⟨by rfl, ?_⟩) hHeld ?_
                          rotate_left
                          · intro w hSw; (try dsimp only at hSw); (try go_split_ands); go_simp; (first | done | with_reducible rfl)
                          (try simp only [Act.put, List.setIfInBounds_toArray, List.set_cons_zero, List.set_cons_succ])
                          refine wpAnyH_take (i := 5) (oi := { dst := some 192, op := Go.Op.move (Go.Operand.tmp 17), type := 3, pos := "compat.go:186", after := #[], guard := none }) (v := ?_) rfl (by kernel_rfl) (by kernel_rfl) (by kernel_rfl) (fun _ _ _ h => h) (Or.inl ⟨by rfl, ?_⟩) hHeld ?_
                          rotate_left
                          · intro w hSw; (try dsimp only at hSw); (try go_split_ands); go_simp; (first | done | with_reducible rfl)
                          (try simp only [Act.put, List.setIfInBounds_toArray, List.set_cons_zero, List.set_cons_succ])
                          refine wpAnyH_take (i := 6) (oi := { dst := some 193, op := Go.Op.indexAddr 47 (Go.Operand.tmp 191) (Go.Operand.tmp 192), type := 0, pos := "compat.go:186", after := #[{ on := 4, ground := Go.Ground.data }, { on := 5, ground := Go.Ground.data }], guard := none }) (v := ?_) rfl (by kernel_rfl) (by kernel_rfl) (by kernel_rfl) (fun _ _ _ h => h) (Or.inl ⟨by rfl, ?_⟩) hHeld ?_
                          rotate_left
                          · intro w hSw; (try dsimp only at hSw); (try go_split_ands); go_simp; (first | done | with_reducible rfl)
                          (try simp only [Act.put, List.setIfInBounds_toArray, List.set_cons_zero, List.set_cons_succ])
                          refine wpAnyH_take (i := 7) (oi := { dst := some 194, op := Go.Op.fieldAddr 51 (Go.Operand.tmp 193) 0, type := 0, pos := "compat.go:186", after := #[{ on := 6, ground := Go.Ground.data }], guard := none }) (v := ?_) rfl (by kernel_rfl) (by kernel_rfl) (by kernel_rfl) (fun _ _ _ h => h) (Or.inl ⟨by rfl, ?_⟩) hHeld ?_
                          rotate_left
                          · intro w hSw; (try dsimp only at hSw); (try go_split_ands); go_simp; (first | done | with_reducible rfl)
                          (try simp only [Act.put, List.setIfInBounds_toArray, List.set_cons_zero, List.set_cons_succ])
                          refine wpAnyH_take (i := 8) (oi := { dst := some 195, op := Go.Op.load 9 (Go.Operand.tmp 194), type := 9, pos := "compat.go:186", after := #[{ on := 7, ground := Go.Ground.data }], guard := none }) (v := ?_) rfl (by kernel_rfl) (by kernel_rfl) (by kernel_rfl) (fun _ _ _ h => h) (Or.inl ⟨by rfl, ?_⟩) hHeld ?_
                          rotate_left
                          · intro w hSw; (try dsimp only at hSw); (try go_split_ands); go_simp; (first | done | with_reducible rfl)
                          (try simp only [Act.put, List.setIfInBounds_toArray, List.set_cons_zero, List.set_cons_succ])
                          refine wpAnyH_take (i := 9) (oi := { dst := some 196, op := Go.Op.build 32 #[(0, Go.Operand.tmp 189), (1, Go.Operand.tmp 195), (3, Go.Operand.const (Go.Value.int Go.IntKind.i64 7))], type := 32, pos := "compat.go:186", after := #[{ on := 2, ground := Go.Ground.data }, { on := 8, ground := Go.Ground.data }], guard := none }) (v := ?_) rfl (by kernel_rfl) (by kernel_rfl) (by kernel_rfl) (fun _ _ _ h => h) (Or.inl ⟨by rfl, ?_⟩) hHeld ?_
                          rotate_left
                          · intro w hSw; (try dsimp only at hSw); (try go_split_ands); go_simp; (first | done | with_reducible rfl)
                          (try simp only [Act.put, List.setIfInBounds_toArray, List.set_cons_zero, List.set_cons_succ])
                          refine wpAnyH_ready (rs := [10]) (by kernel_rfl) (by simp) ?_
                          refine AllReadyH.cons (o := { dst := some 197, op := Go.Op.call { callee := Go.Callee.value (Go.Operand.func 19), args := #[Go.Operand.tmp 187, Go.Operand.tmp 196], argTypes := #[29, 32] }, type := 29, pos := "compat.go:186", after := #[{ on := 0, ground := Go.Ground.data }, { on := 9, ground := Go.Ground.data }], guard := none }) rfl (fun K hK => ?_) AllReadyH.nil
                          go_simp
                          go_at_call 19
                          refine HBo.out.mono ?_
                          rintro e w14 ⟨A14, c14, rfl, h14⟩
                          generalize Value.slice A14 (L2 ++ bothL ⟨nm, yn, 0, 7, false⟩).length c14 = v14 at *
                          have hst := (GrSt.of_below HB13.out.drew).trans h14.out.st
                          have HS14 : Hid ((w14.cell? ⟨q14, 0, none⟩ = some (.string nm) ∧ w14.cell? ⟨q14, 1, none⟩ = some (.slice (some ad2) xn xc)) ∧ w14.cell? (ad2.add (j * 4)) = some (.string yn)) := Lib.hid ⟨⟨by rw [← r0]; exact cell_same (hst.block _ lr6 hv14), by rw [← r1]; exact cell_same (hst.block _ lr6 hv14)⟩, by rw [← b0]; exact cell_same (by rw [add_block]; exact hst.block _ had2 hv12)⟩
                          have HJ14 := Lib.hid (show RJ base w9 z2 (L1 ++ (xs.take (j + 1)).flatMap qb) w14 v14 from ⟨by
                            rw [HFT2.out, ← List.append_assoc, HLE2.out, HQ.out]
                            exact h14.out.own, hq.out.st.trans hst⟩)
                          clear h14 hst
                          refine hK.out _ _ HS14.out (fun hHeld2 => ?_)
                          clear hHeld
                          have hHeld := hHeld2
                          clear hHeld2 hK K
                          (try simp only [Act.put, List.setIfInBounds_toArray, List.set_cons_zero, List.set_cons_succ])
                          refine wpAnyH_take (i := 11) (oi := { dst := some 5, op := Go.Op.assign (Go.Operand.tmp 197), type := 29, pos := "compat.go:186", after := #[{ on := 10, ground := Go.Ground.data }, { on := 10, ground := Go.Ground.chain }, { on := 0, ground := Go.Ground.phase }, { on := 1, ground := Go.Ground.phase }, { on := 2, ground := Go.Ground.phase }, { on := 3, ground := Go.Ground.phase }, { on := 4, ground := Go.Ground.phase }, { on := 5, ground := Go.Ground.phase }, { on := 6, ground := Go.Ground.phase }, { on := 7, ground := Go.Ground.phase }, { on := 8, ground := Go.Ground.phase }, { on := 9, ground := Go.Ground.phase }, { on := 10, ground := Go.Ground.phase }], guard := none }) (v := ?_) rfl (by kernel_rfl) (by kernel_rfl) (by kernel_rfl) (fun _ _ _ h => h) (Or.inl ⟨by rfl, ?_⟩) hHeld ?_
                          rotate_left
                          · intro w hSw; (try dsimp only at hSw); (try go_split_ands); go_simp; (first | done | with_reducible rfl)
                          (try simp only [Act.put, List.setIfInBounds_toArray, List.set_cons_zero, List.set_cons_succ])
                          refine wpAnyH_done (by kernel_rfl) ?_ _
                          refine NoPanic.normal ?_
                          go_wp2_with fail
                          exact ⟨⟨j + 1, _, by omega, by simp, rfl, HJ14⟩, by simp [intOf]; omega⟩
                      · have HQ := Lib.hid hqz
                        clear HQz hqz
                        refine wp_region_noPanic ?_
                        refine wp_region_held_drew (S := (fun W' => (W'.cell? ⟨p18, 0, none⟩ = some (.string d1) ∧ W'.cell? ⟨p18, 1, none⟩ = some (.string d2) ∧ W'.cell? ⟨p18, 2, none⟩ = some (.string d3) ∧ W'.cell? ⟨p18, 3, none⟩ = some (.int .i64 d4)) ∧ W'.cell? ⟨q14, 1, none⟩ = some (.slice (some ad2) xn xc) ∧ W'.cell? (ad2.add (j * 4)) = some (.string yn) ∧ W'.cell? ⟨(ad2.add (j * 4)).block, (ad2.add (j * 4)).off + 1, none⟩ = some (.string yi) ∧ W'.cell? ⟨(ad2.add (j * 4)).block, (ad2.add (j * 4)).off + 2, none⟩ = some (.string yo) ∧ W'.cell? ⟨(ad2.add (j * 4)).block, (ad2.add (j * 4)).off + 3, none⟩ = some (.int .i64 yk))) (by kernel_rfl) (HS35.out _ (Below.refl _ _).drew) (fun hHeld => ?_)
                        refine wpAnyH_take (i := 0) (oi := { dst := some 175, op := Go.Op.move (Go.Operand.tmp 19), type := 4, pos := "compat.go:185", after := #[], guard := none }) (v := ?_) rfl (by kernel_rfl) (by kernel_rfl) (by kernel_rfl) (fun _ _ _ h => h) (Or.inl ⟨by rfl, ?_⟩) hHeld ?_
                        rotate_left
                        · intro w hSw; (try dsimp only at hSw); (try go_split_ands); go_simp; (first | done | with_reducible rfl)
                        (try simp only [Act.put, List.setIfInBounds_toArray, List.set_cons_zero, List.set_cons_succ])
                        refine wpAnyH_take (i := 1) (oi := { dst := some 176, op := Go.Op.unOp Go.UnOp.not 4 (Go.Operand.tmp 175), type := 4, pos := "compat.go:185", after := #[{ on := 0, ground := Go.Ground.data }], guard := none }) (v := ?_) rfl (by kernel_rfl) (by kernel_rfl) (by kernel_rfl) (fun _ _ _ h => h) (Or.inl ⟨by rfl, ?_⟩) hHeld ?_
                        rotate_left
                        · intro w hSw; (try dsimp only at hSw); (try go_split_ands); go_simp; (first | done | with_reducible rfl)
                        (try simp only [Act.put, List.setIfInBounds_toArray, List.set_cons_zero, List.set_cons_succ])
                        refine wpAnyH_take (i := 2) (oi := { dst := some 177, op := Go.Op.move (Go.Operand.tmp 176), type := 4, pos := "compat.go:185", after := #[{ on := 1, ground := Go.Ground.data }], guard := none }) (v := ?_) rfl (by kernel_rfl) (by kernel_rfl) (by kernel_rfl) (fun _ _ _ h => h) (Or.inl ⟨by rfl, ?_⟩) hHeld ?_
                        rotate_left
                        · intro w hSw; (try dsimp only at hSw); (try go_split_ands); go_simp; (first | done | with_reducible rfl)
                        (try simp only [Act.put, List.setIfInBounds_toArray, List.set_cons_zero, List.set_cons_succ])
                        refine wpAnyH_take (i := 3) (oi := { dst := some 178, op := Go.Op.load 51 (Go.Operand.tmp 18), type := 51, pos := "compat.go:185", after := #[{ on := 2, ground := Go.Ground.guard }], guard := some (2, false) }) (v := ?_) rfl (by kernel_rfl) (by kernel_rfl) (by kernel_rfl) (fun _ _ _ h => h) (Or.inl ⟨by rfl, ?_⟩) hHeld ?_
                        rotate_left
                        · intro w hSw; (try dsimp only at hSw); (try go_split_ands); go_simp; (first | done | with_reducible rfl)
                        (try simp only [Act.put, List.setIfInBounds_toArray, List.set_cons_zero, List.set_cons_succ])
                        refine wpAnyH_take (i := 4) (oi := { dst := some 179, op := Go.Op.fieldAddr 49 (Go.Operand.tmp 14) 1, type := 0, pos := "compat.go:185", after := #[{ on := 2, ground := Go.Ground.guard }], guard := some (2, false) }) (v := ?_) rfl (by kernel_rfl) (by kernel_rfl) (by kernel_rfl) (fun _ _ _ h => h) (Or.inl ⟨by rfl, ?_⟩) hHeld ?_
                        rotate_left
                        · intro w hSw; (try dsimp only at hSw); (try go_split_ands); go_simp; (first | done | with_reducible rfl)
                        (try simp only [Act.put, List.setIfInBounds_toArray, List.set_cons_zero, List.set_cons_succ])
                        refine wpAnyH_take (i := 5) (oi := { dst := some 180, op := Go.Op.load 47 (Go.Operand.tmp 179), type := 47, pos := "compat.go:185", after := #[{ on := 4, ground := Go.Ground.data }, { on := 2, ground := Go.Ground.guard }], guard := some (2, false) }) (v := ?_) rfl (by kernel_rfl) (by kernel_rfl) (by kernel_rfl) (fun _ _ _ h => h) (Or.inl ⟨by rfl, ?_⟩) hHeld ?_
                        rotate_left
                        · intro w hSw; (try dsimp only at hSw); (try go_split_ands); go_simp; (first | done | with_reducible rfl)
                        (try simp only [Act.put, List.setIfInBounds_toArray, List.set_cons_zero, List.set_cons_succ])
                        refine wpAnyH_take (i := 6) (oi := { dst := some 181, op := Go.Op.move (Go.Operand.tmp 17), type := 3, pos := "compat.go:185", after := #[{ on := 2, ground := Go.Ground.guard }], guard := some (2, false) }) (v := ?_) rfl (by kernel_rfl) (by kernel_rfl) (by kernel_rfl) (fun _ _ _ h => h) (Or.inl ⟨by rfl, ?_⟩) hHeld ?_
                        rotate_left
                        · intro w hSw; (try dsimp only at hSw); (try go_split_ands); go_simp; (first | done | with_reducible rfl)
                        (try simp only [Act.put, List.setIfInBounds_toArray, List.set_cons_zero, List.set_cons_succ])
                        refine wpAnyH_take (i := 7) (oi := { dst := some 182, op := Go.Op.indexAddr 47 (Go.Operand.tmp 180) (Go.Operand.tmp 181), type := 0, pos := "compat.go:185", after := #[{ on := 5, ground := Go.Ground.data }, { on := 6, ground := Go.Ground.data }, { on := 2, ground := Go.Ground.guard }], guard := some (2, false) }) (v := ?_) rfl (by kernel_rfl) (by kernel_rfl) (by kernel_rfl) (fun _ _ _ h => h) (Or.inl ⟨by rfl, ?_⟩) hHeld ?_
                        rotate_left
                        · intro w hSw; (try dsimp only at hSw); (try go_split_ands); go_simp; (first | done | with_reducible rfl)
                        (try simp only [Act.put, List.setIfInBounds_toArray, List.set_cons_zero, List.set_cons_succ])
                        refine wpAnyH_take (i := 8) (oi := { dst := some 183, op := Go.Op.load 51 (Go.Operand.tmp 182), type := 51, pos := "compat.go:185", after := #[{ on := 7, ground := Go.Ground.data }, { on := 2, ground := Go.Ground.guard }], guard := some (2, false) }) (v := ?_) rfl (by kernel_rfl) (by kernel_rfl) (by kernel_rfl) (fun _ _ _ h => h) (Or.inl ⟨by rfl, ?_⟩) hHeld ?_
                        rotate_left
                        · intro w hSw; (try dsimp only at hSw); (try go_split_ands); go_simp; (first | done | with_reducible rfl)
                        (try simp only [Act.put, List.setIfInBounds_toArray, List.set_cons_zero, List.set_cons_succ])
                        refine wpAnyH_ready (rs := [9]) (by kernel_rfl) (by simp) ?_
                        refine AllReadyH.cons (o := { dst := some 184, op := Go.Op.call { callee := Go.Callee.value (Go.Operand.func 21), args := #[Go.Operand.tmp 178, Go.Operand.tmp 183], argTypes := #[51, 51] }, type := 4, pos := "compat.go:185", after := #[{ on := 3, ground := Go.Ground.data }, { on := 8, ground := Go.Ground.data }, { on := 2, ground := Go.Ground.chain }, { on := 2, ground := Go.Ground.guard }], guard := some (2, false) }) rfl (fun K hK => ?_) AllReadyH.nil
                        go_simp
                        go_at_call 21
                        refine (HSM.out _).mono ?_
                        rintro e w12 ⟨rfl, h12⟩
                        have HB12 := Lib.hid (below_of_drew h12)
                        clear h12
                        refine hK.out _ _ (HS35.out _ HB12.out) (fun hHeld2 => ?_)
                        clear hHeld
                        have hHeld := hHeld2
                        clear hHeld2 hK K
                        (try simp only [Act.put, List.setIfInBounds_toArray, List.set_cons_zero, List.set_cons_succ])
                        refine wpAnyH_take (i := 10) (oi := { dst := some 185, op := Go.Op.unOp Go.UnOp.not 4 (Go.Operand.tmp 184), type := 4, pos := "compat.go:185", after := #[{ on := 9, ground := Go.Ground.data }, { on := 2, ground := Go.Ground.guard }], guard := some (2, false) }) (v := ?_) rfl (by kernel_rfl) (by kernel_rfl) (by kernel_rfl) (fun _ _ _ h => h) (Or.inl ⟨by rfl, ?_⟩) hHeld ?_
                        rotate_left
                        · intro w hSw; (try dsimp only at hSw); (try go_split_ands); go_simp; (first | done | with_reducible rfl)
                        (try simp only [Act.put, List.setIfInBounds_toArray, List.set_cons_zero, List.set_cons_succ])
                        refine wpAnyH_take (i := 11) (oi := { dst := some 186, op := Go.Op.pick (Go.Operand.tmp 177) (Go.Operand.const (Go.Value.bool true)) (Go.Operand.tmp 185), type := 4, pos := "compat.go:185", after := #[{ on := 2, ground := Go.Ground.data }, { on := 10, ground := Go.Ground.data }], guard := none }) (v := ?_) rfl (by kernel_rfl) (by kernel_rfl) (by kernel_rfl) (fun _ _ _ h => h) (Or.inl ⟨by rfl, ?_⟩) hHeld ?_
                        rotate_left
                        · intro w hSw; (try dsimp only at hSw); (try go_split_ands); go_simp; (first | done | with_reducible rfl)
                        (try simp only [Act.put, List.setIfInBounds_toArray, List.set_cons_zero, List.set_cons_succ])
                        refine wpAnyH_done (by kernel_rfl) ?_ _
                        refine NoPanic.normal ?_
                        have HB13 := Lib.hid (HB11.out.trans (HB12.out.mono HB11.out.size))
                        have HJ14 := Lib.hid (show RJ base w9 z2 (L1 ++ (xs.take (j + 1)).flatMap qb) w12 v1 from ⟨by
                          rw [HFT2.out, ← List.append_assoc, HLE2.out, HQ.out, List.append_nil]
                          exact hq.out.own.below HB13.out, hq.out.st.trans (GrSt.of_below HB13.out)⟩)
                        go_wp2_with fail
                        exact ⟨⟨j + 1, _, by omega, by simp, rfl, HJ14⟩, by simp [intOf]; omega⟩
                  · obtain rfl : j = xn := by omega
                    have h1 := hq.out
                    rw [List.take_of_length_le (by rw [HFx.out.1]; exact Nat.le_refl _)] at h1
                    have HJ10 := Lib.hid (show RJ base w6 z1 (LE ++ (ss.take (k + 1)).flatMap qs) wr v1 from ⟨by
                      rw [HFTs.out, ← List.append_assoc, HLQ.out, HQx.out]
                      exact h1.own, HJ9.out.st.trans h1.st⟩)
                    clear h1 hq
                    go_wp2_with fail
                    exact ⟨⟨k + 1, _, by omega, by simp, rfl, HJ10⟩, by simp [intOf]; omega⟩
        · obtain rfl : k = sn := by omega
          have hM := hh.out
          rw [show ss.take k = ss from List.take_of_length_le (by rw [HRA.out.u.1]; exact Nat.le_refl _)] at hM
          have HJS := Lib.hid hM
          clear hM hh
          go_wp2
          go_ret
          refine ⟨z2, rfl, Lib.hid ⟨?_, HB7.out⟩⟩
          rw [HBO.out, ← List.append_assoc, HLEE.out]
          exact HJS.out.own.base (by omega)
end Go.Proofs.Ytcjcpkjdhagofaa
