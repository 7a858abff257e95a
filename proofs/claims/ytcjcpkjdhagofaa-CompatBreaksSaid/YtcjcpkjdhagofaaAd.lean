/-
  compat.Added, Wire, JSON.
-/
import Derived.Test.YtcjcpkjdhagofaaCp
namespace Go.Own.Cm
def goneL (l : List BrkV) : List BrkV := l.filter fun b => b.why == 1
theorem gone_take (l : List BrkV) (k : Nat) (x : BrkV) (h : l[k]? = some x) : goneL (l.take (k + 1)) = goneL (l.take k) ++ (if x.why = 1 then [x] else []) := by
  obtain ⟨hk, he⟩ := List.getElem?_eq_some_iff.1 h
  unfold goneL
  rw [List.take_succ_eq_append_getElem hk, List.filter_append, he]
  by_cases hw : x.why = 1 <;> simp [hw]
theorem gone_le (l : List BrkV) : (goneL l).length ≤ l.length := List.length_filter_le _ _
end Go.Own.Cm
namespace Go.Proofs.Ytcjcpkjdhagofaa
open Go.RowKit Go.Own Go.Own.Cm Go.Shelf
attribute [local go_sem] Oper.semAt_some
theorem breaks_le {w : World} {B : Nat} {a : SchV} (b : SchV) (hr : SchR w B a) (hz : SchZ a) : (breaksOf a b).length ≤ 4800 := by
  have h1 := msgs_le b hr hz a.ms.length
  have h2 := enms_le b hr hz a.es.length
  have h3 := srvs_le b hr hz a.ss.length
  rw [List.take_length] at h1 h2 h3
  unfold breaksOf
  rw [List.length_append, List.length_append]
  omega
structure RC (base : Nat) (w1 : World) (v1 : Value) (L : List BrkV) (W : World) (v : Value) : Prop where
  own : Ew BrkV.cells 46 5 W base v L
  st : GrSt w1 v1 W v
set_option maxHeartbeats 2000000 in
set_option maxRecDepth 100000 in
theorem added_any (a b : SchV) (B : Nat) (w : World) (hra : SchR w B a) (hza : SchZ a) (hrb : SchR w B b) (hzb : SchZ b) (hB : B ≤ w.heap.size) :
    Calls Try.prog 10 #[.agg a.cells, .agg b.cells] w (NewPost w (goneL (breaksOf b a))) := by
  have HBr := Lib.hid fun (W : World) (h : Below w.heap.size w W) => breaks_any b a B W (hrb.below (h.mono hB)) hzb (hra.below (h.mono hB)) hza (Nat.le_trans hB h.size)
  have hle := breaks_le a hrb hzb
  generalize breaksOf b a = l at *
  clear hra hza hrb hzb hB
  obtain ⟨mA, mn, mc, ms, eA, en, ec, es, sA, sn, sc, ss⟩ := a
  obtain ⟨mA', mn', mc', ms', eA', en', ec', es', sA', sn', sc', ss'⟩ := b
  simp only [SchV.cells] at HBr ⊢
  have HB2 : Hid (Below w.heap.size w ((w.alloc (.cells #[.slice mA mn mc, .slice eA en ec, .slice sA sn sc] 26)).alloc (.cells #[.slice mA' mn' mc', .slice eA' en' ec', .slice sA' sn' sc'] 26))) := Lib.hid (((Below.refl w.heap.size w).alloc (Nat.le_refl _) _).alloc (by simp) _)
  go_enter Try.func10, Try.ntmps10
  go_wp2_with fail
  refine (HBr.out _ HB2.out).mono ?_
  rintro e w1 ⟨A, n, c, rfl, h1⟩
  have HU1 := Lib.hid (HB2.out.trans (h1.out.bel.mono HB2.out.size))
  have HR := Lib.hid h1.out.rs
  clear h1
  obtain rfl : l.length = n := HR.out.1
  go_wp2_with fail
  go_loopw [12, 5] (fun i z wr => ∃ (k : Nat) (v : Value), k ≤ l.length ∧ i = .int .i64 (k : Int) ∧ v = z ∧ Hid (RC w1.heap.size w1 (.slice none 0 0) (goneL (l.take k)) wr v)) (fun i _ _ => l.length - (intOf i).toNat)
  case atStart => exact ⟨0, _, Nat.zero_le _, rfl, rfl, Lib.hid ⟨by simpa [goneL] using Ew.nil _ _ _ _ _, GrSt.refl _ _⟩⟩
  case round =>
    obtain ⟨k, v1, hk, rfl, rfl, hh⟩ := hrel
    have hu : Below w1.heap.size w1 wr := hh.out.st.under (fun g e => by cases e) (Nat.le_refl _)
    by_cases hlt : k < l.length
    · obtain ⟨ad, x, e, hx, a0, a1, a2, a3, a4⟩ := (HR.out.below hu).atB hlt
      have e : A = some ad := e
      subst e
      have i0 : (0 : Int) ≤ (k : Int) := by omega
      have i1 : (k : Int) < (l.length : Int) := by omega
      have HT := Lib.hid (gone_take l k x hx)
      have hl1 : (goneL (l.take k)).length ≤ 4800 := Nat.le_trans (gone_le _) (by rw [List.length_take]; omega)
      obtain ⟨x0, x1, x2, x3, x4⟩ := x
      simp only at a0 a1 a2 a3 a4
      generalize hL1 : goneL (l.take k) = L1 at hh hl1
      have HL1 := Lib.hid hl1
      have HLE := Lib.hid hL1
      have HU := Lib.hid hu
      obtain ⟨A1, c1, rfl, _⟩ := hh.out.own.form
      clear hx hl1 hL1 hu
      have hb13 : Below wr.heap.size wr (wr.alloc (.cells #[.string x0, .string x1, .int .i64 x2, .int .i64 x3, .bool x4] 46)) := (Below.refl _ _).alloc (Nat.le_refl _) _
      have HB13 := Lib.hid hb13
      by_cases h3 : x3 = 1
      · subst h3
        have hb14 : Below wr.heap.size wr ((wr.alloc (.cells #[.string x0, .string x1, .int .i64 x2, .int .i64 1, .bool x4] 46)).alloc (.cells #[.string x0, .string x1, .int .i64 x2, .int .i64 1, .bool x4] 46)) := hb13.alloc (by simp) _
        have HO14 : Hid (Ew BrkV.cells 46 5 ((wr.alloc (.cells #[.string x0, .string x1, .int .i64 x2, .int .i64 1, .bool x4] 46)).alloc (.cells #[.string x0, .string x1, .int .i64 x2, .int .i64 1, .bool x4] 46)) w1.heap.size (.slice A1 L1.length c1) L1) := Lib.hid (hh.out.own.below hb14)
        have HR14 : Hid (RS BrkV.cells 5 ((wr.alloc (.cells #[.string x0, .string x1, .int .i64 x2, .int .i64 1, .bool x4] 46)).alloc (.cells #[.string x0, .string x1, .int .i64 x2, .int .i64 1, .bool x4] 46)) (wr.heap.size + 2) (some ⟨wr.heap.size + 1, 0, none⟩) 1 [⟨x0, x1, x2, 1, x4⟩]) := Lib.hid (by
          have h := (Ew.lit (k := 5) BrkV.cells 46 (fun _ => rfl) (wr.alloc (.cells #[.string x0, .string x1, .int .i64 x2, .int .i64 1, .bool x4] 46)) [⟨x0, x1, x2, 1, x4⟩] (by simp)).rs (fun _ => rfl) (by omega)
          have h2 : RS BrkV.cells 5 ((wr.alloc (.cells #[.string x0, .string x1, .int .i64 x2, .int .i64 1, .bool x4] 46)).alloc (.cells #[.string x0, .string x1, .int .i64 x2, .int .i64 1, .bool x4] 46)) _ (some ⟨(wr.alloc (.cells #[.string x0, .string x1, .int .i64 x2, .int .i64 1, .bool x4] 46)).heap.size, 0, none⟩) 1 [⟨x0, x1, x2, 1, x4⟩] := h
          simpa using h2)
        have HB14 := Lib.hid hb14
        clear hb14 hb13
        go_wp2_with (at_builtin
                     refine wpList_app_e elBrkC _ rfl (.tmp 19) (.tmp 21) rfl w1.heap.size (.slice A1 L1.length c1) L1 rfl HO14.out (wr.heap.size + 2) (some ⟨wr.heap.size + 1, 0, none⟩) 1 1 [⟨x0, x1, x2, 1, x4⟩] rfl HR14.out (by have := HL1.out; omega) (by have := HU.out.size; simp; omega) ?_
                     intro A15 c15 w15 hown hg hv
                     have HJ15 := Lib.hid (show RC w1.heap.size w1 (.slice none 0 0) (goneL (l.take (k + 1))) w15 (.slice A15 (L1.length + 1) c15) from ⟨by
                       rw [HT.out, HLE.out]
                       exact hown, hh.out.st.trans ((GrSt.of_below HB14.out).trans (GrSt.of_grown hg hv))⟩)
                     clear hown hg hv)
        exact ⟨⟨k + 1, _, hlt, by go_num, rfl, HJ15⟩, by simp [intOf]; omega⟩
      · have HJ15 := Lib.hid (show RC w1.heap.size w1 (.slice none 0 0) (goneL (l.take (k + 1))) (wr.alloc (.cells #[.string x0, .string x1, .int .i64 x2, .int .i64 x3, .bool x4] 46)) (.slice A1 L1.length c1) from ⟨by
          rw [HT.out, HLE.out, if_neg h3, List.append_nil]
          exact hh.out.own.below HB13.out, hh.out.st.trans (GrSt.of_below HB13.out)⟩)
        clear hb13
        go_wp2
        exact ⟨⟨k + 1, _, hlt, by go_num, rfl, HJ15⟩, by simp [intOf]; omega⟩
    · obtain rfl : k = l.length := by omega
      have h1 := hh.out
      rw [List.take_of_length_le (Nat.le_refl _)] at h1
      have HJ := Lib.hid h1
      have HU := Lib.hid (HU1.out.trans (hu.mono HU1.out.size))
      have hs1 := HU1.out.size
      obtain ⟨A1, c1, rfl, _⟩ := h1.own.form
      clear h1 hh hu
      go_wp2
      go_ret
      exact ⟨A1, _, c1, rfl, Lib.hid ⟨HJ.out.own.rs (fun _ => rfl) (by omega), HU.out, fun ad e => Nat.le_trans hs1 (HJ.out.own.from ad e)⟩⟩
set_option maxHeartbeats 2000000 in
set_option maxRecDepth 100000 in
theorem wire_says (a b : SchV) (B : Nat) (w : World) (hra : SchR w B a) (hza : SchZ a) (hrb : SchR w B b) (hzb : SchZ b) (hB : B ≤ w.heap.size) :
    Calls Try.prog 11 #[.agg a.cells, .agg b.cells] w (AskP (noneB (breaksOf a b) false) w) := by
  have HBr := Lib.hid fun (W : World) (h : Below w.heap.size w W) => breaks_any a b B W (hra.below (h.mono hB)) hza (hrb.below (h.mono hB)) hzb (Nat.le_trans hB h.size)
  have hle := breaks_le b hra hza
  generalize breaksOf a b = l at *
  clear hra hza hrb hzb hB
  obtain ⟨mA, mn, mc, ms, eA, en, ec, es, sA, sn, sc, ss⟩ := a
  obtain ⟨mA', mn', mc', ms', eA', en', ec', es', sA', sn', sc', ss'⟩ := b
  simp only [SchV.cells] at HBr ⊢
  have HB2 : Hid (Below w.heap.size w ((w.alloc (.cells #[.slice mA mn mc, .slice eA en ec, .slice sA sn sc] 26)).alloc (.cells #[.slice mA' mn' mc', .slice eA' en' ec', .slice sA' sn' sc'] 26))) := Lib.hid (((Below.refl w.heap.size w).alloc (Nat.le_refl _) _).alloc (by simp) _)
  go_enter Try.func11, Try.ntmps11
  go_wp2_with fail
  refine (HBr.out _ HB2.out).mono ?_
  rintro e w1 ⟨A, n, c, rfl, h1⟩
  have HU1 := Lib.hid (HB2.out.trans (h1.out.bel.mono HB2.out.size))
  have HR := Lib.hid h1.out.rs
  clear h1
  go_wp2_with fail
  refine (none_any A n c l false w1.heap.size w1 (by have := HR.out.1; omega) HR.out (Nat.le_refl _)).mono ?_
  rintro e w2 ⟨rfl, h2⟩
  have HU2 := Lib.hid (HU1.out.trans (h2.mono HU1.out.size))
  clear h2
  go_wp2_with fail
  go_ret
  exact ⟨rfl, HU2.out⟩
set_option maxHeartbeats 2000000 in
set_option maxRecDepth 100000 in
theorem json_says (a b : SchV) (B : Nat) (w : World) (hra : SchR w B a) (hza : SchZ a) (hrb : SchR w B b) (hzb : SchZ b) (hB : B ≤ w.heap.size) :
    Calls Try.prog 13 #[.agg a.cells, .agg b.cells] w (AskP (noneB (breaksOf a b) true) w) := by
  have HBr := Lib.hid fun (W : World) (h : Below w.heap.size w W) => breaks_any a b B W (hra.below (h.mono hB)) hza (hrb.below (h.mono hB)) hzb (Nat.le_trans hB h.size)
  have hle := breaks_le b hra hza
  generalize breaksOf a b = l at *
  clear hra hza hrb hzb hB
  obtain ⟨mA, mn, mc, ms, eA, en, ec, es, sA, sn, sc, ss⟩ := a
  obtain ⟨mA', mn', mc', ms', eA', en', ec', es', sA', sn', sc', ss'⟩ := b
  simp only [SchV.cells] at HBr ⊢
  have HB2 : Hid (Below w.heap.size w ((w.alloc (.cells #[.slice mA mn mc, .slice eA en ec, .slice sA sn sc] 26)).alloc (.cells #[.slice mA' mn' mc', .slice eA' en' ec', .slice sA' sn' sc'] 26))) := Lib.hid (((Below.refl w.heap.size w).alloc (Nat.le_refl _) _).alloc (by simp) _)
  go_enter Try.func13, Try.ntmps13
  go_wp2_with fail
  refine (HBr.out _ HB2.out).mono ?_
  rintro e w1 ⟨A, n, c, rfl, h1⟩
  have HU1 := Lib.hid (HB2.out.trans (h1.out.bel.mono HB2.out.size))
  have HR := Lib.hid h1.out.rs
  clear h1
  go_wp2_with fail
  refine (none_any A n c l true w1.heap.size w1 (by have := HR.out.1; omega) HR.out (Nat.le_refl _)).mono ?_
  rintro e w2 ⟨rfl, h2⟩
  have HU2 := Lib.hid (HU1.out.trans (h2.mono HU1.out.size))
  clear h2
  go_wp2_with fail
  go_ret
  exact ⟨rfl, HU2.out⟩
end Go.Proofs.Ytcjcpkjdhagofaa
