/-
  The law's CompatBreaks.
-/
import Derived.Test.YtcjcpkjdhagofaaFt
import Derived.Test.YtcjcpkjdhagofaaSm
namespace Go.Proofs.Ytcjcpkjdhagofaa
open Go.RowKit Go.Own Go.Own.Cm Go.Shelf
attribute [local go_sem] Oper.semAt_some
set_option maxHeartbeats 16000000 in
set_option maxRecDepth 100000 in
theorem compatBreaks_any (a b : SchV) (x y : Int) (B : Nat) (w : World) (hra : SchR w B a) (hrb : SchR w B b) (hWa : SchW a) (hWb : SchW b) (hB : B ≤ w.heap.size) :
    Calls Try.prog 3 #[.agg a.cells, .agg b.cells, .int .i64 x, .int .i64 y] w (AskP true w) := by
  have HRA := Lib.hid fun W' (hb : Below w.heap.size w W') => hra.below (hb.mono hB)
  have HRB := Lib.hid fun W' (hb : Below w.heap.size w W') => hrb.below (hb.mono hB)
  have HFA := Lib.hid fun W' (hb : Below w.heap.size w W') => fair_any a B W' (HRA.out W' hb) (Nat.le_trans hB hb.size) hWa
  have HFB := Lib.hid fun W' (hb : Below w.heap.size w W') => fair_any b B W' (HRB.out W' hb) (Nat.le_trans hB hb.size) hWb
  have HB' := Lib.hid hB
  have HLB : Hid (SchZ b → (breaksOf b a).length ≤ 4800) := Lib.hid fun h => breaks_le a hrb h
  have HLA : Hid (SchZ a → (breaksOf a b).length ≤ 4800) := Lib.hid fun h => breaks_le b hra h
  have HBR := Lib.hid fun (za : SchZ a) (zb : SchZ b) W' (hb : Below w.heap.size w W') => breaksR_any a b B W' (HRA.out W' hb) za (HRB.out W' hb) zb (Nat.le_trans hB hb.size)
  have HBK := Lib.hid fun (za : SchZ a) (zb : SchZ b) W' (hb : Below w.heap.size w W') => breaksR_any b a B W' (HRB.out W' hb) zb (HRA.out W' hb) za (Nat.le_trans hB hb.size)
  have HCB := Lib.hid fun (za : SchZ a) (zb : SchZ b) W' (hb : Below w.heap.size w W') => breaks_any a b B W' (HRA.out W' hb) za (HRB.out W' hb) zb (Nat.le_trans hB hb.size)
  have HAD := Lib.hid fun (za : SchZ a) (zb : SchZ b) W' (hb : Below w.heap.size w W') => added_any a b B W' (HRA.out W' hb) za (HRB.out W' hb) zb (Nat.le_trans hB hb.size)
  have HWI := Lib.hid fun (za : SchZ a) (zb : SchZ b) W' (hb : Below w.heap.size w W') => wire_says a b B W' (HRA.out W' hb) za (HRB.out W' hb) zb (Nat.le_trans hB hb.size)
  have HJS := Lib.hid fun (za : SchZ a) (zb : SchZ b) W' (hb : Below w.heap.size w W') => json_says a b B W' (HRA.out W' hb) za (HRB.out W' hb) zb (Nat.le_trans hB hb.size)
  clear hra hrb hWa hWb hB HRA HRB HB'
  generalize breaksOf a b = l at *
  generalize breaksOf b a = lb at *
  generalize SchZ a = za at *
  generalize SchZ b = zb at *
  obtain ⟨mA, mn, mc, ms, eA, en, ec, es, sA, sn, sc, ss⟩ := a
  obtain ⟨mA', mn', mc', ms', eA', en', ec', es', sA', sn', sc', ss'⟩ := b
  simp only [SchV.cells] at HFA HFB HBR HBK HCB HAD HWI HJS ⊢
  have hb1 : Below w.heap.size w ((w.alloc (.cells #[.slice mA mn mc, .slice eA en ec, .slice sA sn sc] 26)).alloc (.cells #[.slice mA' mn' mc', .slice eA' en' ec', .slice sA' sn' sc'] 26)) := ((Below.refl _ _).alloc (Nat.le_refl _) _).alloc (by simp) _
  have hk := (Blk.new w 26 #[.slice mA mn mc, .slice eA en ec, .slice sA sn sc]).below ((Below.refl _ _).alloc (Nat.le_refl _) (.cells #[.slice mA' mn' mc', .slice eA' en' ec', .slice sA' sn' sc'] 26)) (by simp)
  have hk' := Blk.new (w.alloc (.cells #[.slice mA mn mc, .slice eA en ec, .slice sA sn sc] 26)) 26 #[.slice mA' mn' mc', .slice eA' en' ec', .slice sA' sn' sc']
  have z1 : (w.alloc (.cells #[.slice mA mn mc, .slice eA en ec, .slice sA sn sc] 26)).heap.size = w.heap.size + 1 := by simp
  rw [z1] at hk'
  clear z1
  have HK := Lib.hid hk
  have HK' := Lib.hid hk'
  have HB1 := Lib.hid hb1
  clear hk hk' hb1
  go_enter Try.func3, Try.ntmps3
  go_upto_region 1 with (fail)
  generalize ((w.alloc (.cells #[.slice mA mn mc, .slice eA en ec, .slice sA sn sc] 26)).alloc (.cells #[.slice mA' mn' mc', .slice eA' en' ec', .slice sA' sn' sc'] 26)) = w1 at *
  have HCL : Hid (∀ W', Below w1.heap.size w1 W' → (W'.cell? ⟨w.heap.size, 0, none⟩ = some (.slice mA mn mc) ∧ W'.cell? ⟨w.heap.size, 1, none⟩ = some (.slice eA en ec) ∧ W'.cell? ⟨w.heap.size, 2, none⟩ = some (.slice sA sn sc)) ∧ (W'.cell? ⟨w.heap.size + 1, 0, none⟩ = some (.slice mA' mn' mc') ∧ W'.cell? ⟨w.heap.size + 1, 1, none⟩ = some (.slice eA' en' ec') ∧ W'.cell? ⟨w.heap.size + 1, 2, none⟩ = some (.slice sA' sn' sc'))) := Lib.hid fun W' hb =>
    ⟨⟨(HK.out.below hb HK.out.lt).cell 0, (HK.out.below hb HK.out.lt).cell 1, (HK.out.below hb HK.out.lt).cell 2⟩, ⟨(HK'.out.below hb HK'.out.lt).cell 0, (HK'.out.below hb HK'.out.lt).cell 1, (HK'.out.below hb HK'.out.lt).cell 2⟩⟩
  clear HK HK'
  have HU1 := Lib.hid (Below.refl w1.heap.size w1)
  go_wp2_with fail
  refine (first_any _).mono ?_
  rintro e w2 ⟨rfl, h9⟩
  have HS2 := Lib.hid h9
  have HU2 := Lib.hid (HU1.out.trans (HS2.out.mono HU1.out.size))
  clear h9 HS2
  obtain ⟨⟨c0, c1, c2⟩, ⟨d0, d1, d2⟩⟩ := HCL.out w2 HU2.out
  go_wp2_with fail
  refine (HFA.out _ (HB1.out.trans (HU2.out.mono HB1.out.size))).mono ?_
  rintro e w3 ⟨⟨b1, rfl, hz1⟩, h9⟩
  have HS3 := Lib.hid h9
  have HU3 := Lib.hid (HU2.out.trans (HS3.out.mono HU2.out.size))
  clear h9 HS3 c0 c1 c2 d0 d1 d2
  have HZA := Lib.hid hz1
  clear hz1
  rcases b1 with _ | _
  · go_wp2_with fail
    go_ret
    exact ⟨rfl, (HB1.out.trans (HU3.out.mono HB1.out.size))⟩
  obtain ⟨⟨c0, c1, c2⟩, ⟨d0, d1, d2⟩⟩ := HCL.out w3 HU3.out
  go_wp2_with fail
  refine (HFB.out _ (HB1.out.trans (HU3.out.mono HB1.out.size))).mono ?_
  rintro e w4 ⟨⟨b2, rfl, hz2⟩, h9⟩
  have HS4 := Lib.hid h9
  have HU4 := Lib.hid (HU3.out.trans (HS4.out.mono HU3.out.size))
  clear h9 HS4 c0 c1 c2 d0 d1 d2
  have HZB := Lib.hid hz2
  clear hz2
  rcases b2 with _ | _
  · go_wp2_with fail
    go_ret
    exact ⟨rfl, (HB1.out.trans (HU4.out.mono HB1.out.size))⟩
  have pa := HZA.out (by first | rfl | trivial)
  have pb := HZB.out (by first | rfl | trivial)
  clear HZA HZB HFA HFB
  have hla := HLA.out pa
  have hlb := HLB.out pb
  have HBRx := Lib.hid (HBR.out pa pb)
  have HBKx := Lib.hid (HBK.out pa pb)
  have HCBx := Lib.hid (HCB.out pa pb)
  have HADx := Lib.hid (HAD.out pa pb)
  have HWIx := Lib.hid (HWI.out pa pb)
  have HJSx := Lib.hid (HJS.out pa pb)
  clear HBR HBK HCB HAD HWI HJS HLA HLB pa pb
  obtain ⟨⟨c0, c1, c2⟩, ⟨d0, d1, d2⟩⟩ := HCL.out w4 HU4.out
  go_wp2_with fail
  refine (HBRx.out _ (HB1.out.trans (HU4.out.mono HB1.out.size))).mono ?_
  rintro e w5 ⟨v5, rfl, h9⟩
  have HS5 := Lib.hid h9.out.2
  have HU5 := Lib.hid (HU4.out.trans (HS5.out.mono HU4.out.size))
  obtain ⟨A5, x5, e, _, _⟩ := h9.out.1.form
  subst e
  have HL5 := Lib.hid (h9.out.1.rs (fun _ => rfl) (by omega))
  clear h9 HS5 c0 c1 c2 d0 d1 d2
  obtain ⟨⟨c0, c1, c2⟩, ⟨d0, d1, d2⟩⟩ := HCL.out w5 HU5.out
  go_wp2_with fail
  refine (HBKx.out _ (HB1.out.trans (HU5.out.mono HB1.out.size))).mono ?_
  rintro e w6 ⟨v6, rfl, h9⟩
  have HS6 := Lib.hid h9.out.2
  have HU6 := Lib.hid (HU5.out.trans (HS6.out.mono HU5.out.size))
  obtain ⟨A6, x6, e, _, _⟩ := h9.out.1.form
  subst e
  have HL6 := Lib.hid (h9.out.1.rs (fun _ => rfl) (by omega))
  have HL5b := Lib.hid ((HL5.out.below HS6.out).more HS6.out.size)
  clear h9 HS6 HL5 c0 c1 c2 d0 d1 d2
  go_wp2_with fail
  go_loopw [13, 11] (fun i z wr => ∃ (k : Nat) (v : Value), k ≤ lb.length ∧ i = .int .i64 (k : Int) ∧ v = z ∧ Hid (RJ w6.heap.size w6 (.slice none 0 0) (goneL (lb.take k)) wr v)) (fun i _ _ => lb.length - (intOf i).toNat)
  case atStart => exact ⟨0, _, Nat.zero_le _, rfl, rfl, Lib.hid ⟨by simpa [goneL] using Ew.nil _ _ _ _ _, GrSt.refl _ _⟩⟩
  case round =>
    obtain ⟨k, v1, hk, rfl, rfl, hh⟩ := hrel
    have hu : Below w6.heap.size w6 wr := hh.out.st.under (fun g e => by cases e) (Nat.le_refl _)
    by_cases hlt : k < lb.length
    · obtain ⟨ad, x, e, hx, a0, a1, a2, a3, a4⟩ := (HL6.out.below hu).atB hlt
      have e : A6 = some ad := e
      subst e
      have i0 : (0 : Int) ≤ (k : Int) := by omega
      have i1 : (k : Int) < (lb.length : Int) := by omega
      have HT := Lib.hid (gone_take lb k x hx)
      have hl1 : (goneL (lb.take k)).length ≤ 4800 := Nat.le_trans (gone_le _) (by rw [List.length_take]; omega)
      obtain ⟨x0, x1, x2, x3, x4⟩ := x
      simp only at a0 a1 a2 a3 a4
      generalize hL1 : goneL (lb.take k) = L1 at hh hl1
      have HL1 := Lib.hid hl1
      have HLE := Lib.hid hL1
      have HU := Lib.hid hu
      obtain ⟨A1, c1, rfl, _⟩ := hh.out.own.form
      clear hx hl1 hL1 hu
      by_cases h3 : x3 = 1
      · subst h3
        have hb14 : Below wr.heap.size wr (wr.alloc (.cells #[.string x0, .string x1, .int .i64 x2, .int .i64 1, .bool x4] 32)) := (Below.refl _ _).alloc (Nat.le_refl _) _
        have HO14 : Hid (Ew BrkV.cells 32 5 (wr.alloc (.cells #[.string x0, .string x1, .int .i64 x2, .int .i64 1, .bool x4] 32)) w6.heap.size (.slice A1 L1.length c1) L1) := Lib.hid (hh.out.own.below hb14)
        have HR14 : Hid (RS BrkV.cells 5 (wr.alloc (.cells #[.string x0, .string x1, .int .i64 x2, .int .i64 1, .bool x4] 32)) (wr.heap.size + 1) (some ⟨wr.heap.size, 0, none⟩) 1 [⟨x0, x1, x2, 1, x4⟩]) := Lib.hid (by
          have h := (Ew.lit (k := 5) BrkV.cells 32 (fun _ => rfl) wr [⟨x0, x1, x2, 1, x4⟩] (by simp)).rs (fun _ => rfl) (by omega)
          have h2 : RS BrkV.cells 5 (wr.alloc (.cells #[.string x0, .string x1, .int .i64 x2, .int .i64 1, .bool x4] 32)) _ (some ⟨wr.heap.size, 0, none⟩) 1 [⟨x0, x1, x2, 1, x4⟩] := h
          simpa using h2)
        have HB14 := Lib.hid hb14
        clear hb14
        go_wp2_with (at_builtin
                     refine wpList_app_e elBrkR _ rfl (.tmp 48) (.tmp 53) rfl w6.heap.size (.slice A1 L1.length c1) L1 rfl HO14.out (wr.heap.size + 1) (some ⟨wr.heap.size, 0, none⟩) 1 1 [⟨x0, x1, x2, 1, x4⟩] rfl HR14.out (by have := HL1.out; omega) (by have := HU.out.size; simp; omega) ?_
                     intro A15 c15 w15 hown hg hv
                     have HJ15 := Lib.hid (show RJ w6.heap.size w6 (.slice none 0 0) (goneL (lb.take (k + 1))) w15 (.slice A15 (L1.length + 1) c15) from ⟨by
                       rw [HT.out, HLE.out]
                       exact hown, hh.out.st.trans ((GrSt.of_below HB14.out).trans (GrSt.of_grown hg hv))⟩)
                     clear hown hg hv)
        exact ⟨⟨k + 1, _, hlt, by go_num, rfl, HJ15⟩, by simp [intOf]; omega⟩
      · have HJ15 := Lib.hid (show RJ w6.heap.size w6 (.slice none 0 0) (goneL (lb.take (k + 1))) wr (.slice A1 L1.length c1) from ⟨by
          rw [HT.out, HLE.out, if_neg h3, List.append_nil]
          exact hh.out.own, hh.out.st⟩)
        go_wp2
        exact ⟨⟨k + 1, _, hlt, by go_num, rfl, HJ15⟩, by simp [intOf]; omega⟩
    · obtain rfl : lb.length = k := by omega
      have h1 := hh.out
      rw [List.take_of_length_le (Nat.le_refl _)] at h1
      have HU7 := Lib.hid (HU6.out.trans (hu.mono HU6.out.size))
      have HL7 := Lib.hid ((HL5b.out.below hu).more hu.size)
      obtain ⟨A7, x7, e, _⟩ := h1.own.form
      subst e
      have HG7 := Lib.hid (h1.own.rs (fun _ => rfl) (by omega))
      have hlg := gone_le lb
      generalize goneL lb = lg at *
      clear h1 hh hu HL5b HL6 HBRx HBKx
      generalize wr = w7 at *
      obtain ⟨⟨c0, c1, c2⟩, ⟨d0, d1, d2⟩⟩ := HCL.out w7 HU7.out
      go_wp2_with fail
      refine (HCBx.out _ (HB1.out.trans (HU7.out.mono HB1.out.size))).mono ?_
      rintro e w8 ⟨A8, n8, c8, rfl, h9⟩
      have HS8 := Lib.hid h9.out.bel
      have HU8 := Lib.hid (HU7.out.trans (HS8.out.mono HU7.out.size))
      have HP8 := Lib.hid (h9.out.rs)
      have HL8 := Lib.hid ((HL7.out.below h9.out.bel).more h9.out.bel.size)
      have HG8 := Lib.hid ((HG7.out.below h9.out.bel).more h9.out.bel.size)
      clear h9 HS8 HL7 HG7 c0 c1 c2 d0 d1 d2
      go_wp2_with fail
      refine (copy_any A8 n8 c8 l w8.heap.size w8 (by have := HP8.out.1; omega) HP8.out (Nat.le_refl _)).mono ?_
      rintro e w9 ⟨v9, rfl, h9⟩
      have HS9 := Lib.hid h9.out.2
      have HU9 := Lib.hid (HU8.out.trans (HS9.out.mono HU8.out.size))
      have HL9 := Lib.hid ((HL8.out.below h9.out.2).more h9.out.2.size)
      have HG9 := Lib.hid ((HG8.out.below h9.out.2).more h9.out.2.size)
      obtain ⟨A9, x9, e, _, _⟩ := h9.out.1.form
      subst e
      have HP9 := Lib.hid (h9.out.1.rs (fun _ => rfl) (by omega))
      clear h9 HL8 HG8 HP8
      go_wp2_with fail
      refine (sameR_any A9 A5 l.length x9 x5 l w9.heap.size w9 (by omega) HP9.out HL9.out (Nat.le_refl _)).mono ?_
      rintro e w10 ⟨rfl, h9⟩
      have HS10 := Lib.hid h9
      have HU10 := Lib.hid (HU9.out.trans (HS10.out.mono HU9.out.size))
      have HL10 := Lib.hid ((HL9.out.below h9).more h9.size)
      have HG10 := Lib.hid ((HG9.out.below h9).more h9.size)
      clear h9 HS9 HS10 HL9 HG9 HP9
      obtain ⟨⟨c0, c1, c2⟩, ⟨d0, d1, d2⟩⟩ := HCL.out w10 HU10.out
      go_wp2_with fail
      refine (HADx.out _ (HB1.out.trans (HU10.out.mono HB1.out.size))).mono ?_
      rintro e w11 ⟨A11, n11, c11, rfl, h9⟩
      have HS11 := Lib.hid h9.out.bel
      have HU11 := Lib.hid (HU10.out.trans (HS11.out.mono HU10.out.size))
      have HP11 := Lib.hid (h9.out.rs)
      have HL11 := Lib.hid ((HL10.out.below h9.out.bel).more h9.out.bel.size)
      have HG11 := Lib.hid ((HG10.out.below h9.out.bel).more h9.out.bel.size)
      clear h9 HS11 HL10 HG10 c0 c1 c2 d0 d1 d2
      go_wp2_with fail
      refine (copy_any A11 n11 c11 lg w11.heap.size w11 (by have := HP11.out.1; omega) HP11.out (Nat.le_refl _)).mono ?_
      rintro e w12 ⟨v12, rfl, h9⟩
      have HS12 := Lib.hid h9.out.2
      have HU12 := Lib.hid (HU11.out.trans (HS12.out.mono HU11.out.size))
      have HL12 := Lib.hid ((HL11.out.below h9.out.2).more h9.out.2.size)
      have HG12 := Lib.hid ((HG11.out.below h9.out.2).more h9.out.2.size)
      obtain ⟨A12, x12, e, _, _⟩ := h9.out.1.form
      subst e
      have HP12 := Lib.hid (h9.out.1.rs (fun _ => rfl) (by omega))
      clear h9 HS12 HL11 HG11 HP11
      go_wp2_with fail
      refine (sameR_any A12 A7 lg.length x12 x7 lg w12.heap.size w12 (by omega) HP12.out HG12.out (Nat.le_refl _)).mono ?_
      rintro e w13 ⟨rfl, h9⟩
      have HS13 := Lib.hid h9
      have HU13 := Lib.hid (HU12.out.trans (HS13.out.mono HU12.out.size))
      have HL13 := Lib.hid ((HL12.out.below h9).more h9.size)
      clear h9 HS13 HL12 HG12 HP12
      obtain ⟨⟨c0, c1, c2⟩, ⟨d0, d1, d2⟩⟩ := HCL.out w13 HU13.out
      go_wp2_with fail
      refine (HWIx.out _ (HB1.out.trans (HU13.out.mono HB1.out.size))).mono ?_
      rintro e w14 ⟨rfl, h9⟩
      have HS14 := Lib.hid h9
      have HU14 := Lib.hid (HU13.out.trans (HS14.out.mono HU13.out.size))
      have HL14 := Lib.hid ((HL13.out.below h9).more h9.size)
      clear h9 HS14 HL13 c0 c1 c2 d0 d1 d2
      go_wp2_with fail
      refine (noneR_any A5 l.length x5 l false w14.heap.size w14 (by omega) HL14.out (Nat.le_refl _)).mono ?_
      rintro e w15 ⟨rfl, h9⟩
      have HS15 := Lib.hid h9
      have HU15 := Lib.hid (HU14.out.trans (HS15.out.mono HU14.out.size))
      have HL15 := Lib.hid ((HL14.out.below h9).more h9.size)
      clear h9 HS15 HL14
      generalize noneB l false = q1
      obtain ⟨⟨c0, c1, c2⟩, ⟨d0, d1, d2⟩⟩ := HCL.out w15 HU15.out
      go_wp2_with fail
      refine (HJSx.out _ (HB1.out.trans (HU15.out.mono HB1.out.size))).mono ?_
      rintro e w16 ⟨rfl, h9⟩
      have HS16 := Lib.hid h9
      have HU16 := Lib.hid (HU15.out.trans (HS16.out.mono HU15.out.size))
      have HL16 := Lib.hid ((HL15.out.below h9).more h9.size)
      clear h9 HS16 HL15 c0 c1 c2 d0 d1 d2
      go_wp2_with fail
      refine (noneR_any A5 l.length x5 l true w16.heap.size w16 (by omega) HL16.out (Nat.le_refl _)).mono ?_
      rintro e w17 ⟨rfl, h9⟩
      have HS17 := Lib.hid h9
      have HU17 := Lib.hid (HU16.out.trans (HS17.out.mono HU16.out.size))
      clear h9 HS17 HL16
      generalize noneB l true = q2
      go_wp2_with fail
      refine (alikeF_any _ _ _).mono ?_
      rintro e w18 ⟨rfl, rfl⟩
      rw [alikeF_eq]
      go_wp2_with fail
      refine (alikeB_any _ _ _).mono ?_
      rintro e w19 ⟨rfl, rfl⟩
      generalize alikeB x y = q3
      go_wp2_with fail
      go_ret
      exact ⟨rfl, (HB1.out.trans (HU17.out.mono HB1.out.size))⟩
end Go.Proofs.Ytcjcpkjdhagofaa
