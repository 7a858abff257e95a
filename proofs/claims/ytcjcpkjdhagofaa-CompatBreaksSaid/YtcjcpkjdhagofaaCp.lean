/-
  The law's copy of a list of breaks.
-/
import Derived.Test.YtcjcpkjdhagofaaNn
namespace Go.Proofs.Ytcjcpkjdhagofaa
open Go.RowKit Go.Own Go.Own.Cm Go.Shelf
attribute [local go_sem] Oper.semAt_some
set_option maxHeartbeats 8000000 in
set_option maxRecDepth 100000 in
theorem copy_any (A : Option Addr) (n c : Nat) (l : List BrkV) (B : Nat) (w : World) (hn : n ≤ 10000) (hr : RS BrkV.cells 5 w B A n l) (hB : B ≤ w.heap.size) :
    Calls Try.prog 8 #[.slice A n c] w (NewR w l) := by
  have HR := Lib.hid hr
  have HBs := Lib.hid hB
  clear hr hB
  go_enter Try.func8, Try.ntmps8
  go_wp2
  go_loopw [4, 3] (fun i z wr => ∃ (k : Nat) (v : Value), k ≤ n ∧ i = .int .i64 (k : Int) ∧ v = z ∧ Hid (RJ w.heap.size w (.slice none 0 0) (l.take k) wr v)) (fun i _ _ => n - (intOf i).toNat)
  case atStart => exact ⟨0, _, Nat.zero_le _, rfl, rfl, Lib.hid ⟨by simpa using Ew.nil _ _ _ _ _, GrSt.refl _ _⟩⟩
  case round =>
    obtain ⟨k, v1, hk, rfl, rfl, hh⟩ := hrel
    have hu : Below w.heap.size w wr := hh.out.st.under (fun g e => by cases e) (Nat.le_refl _)
    by_cases hlt : k < n
    · obtain ⟨ad, x, e, hx, a0, a1, a2, a3, a4⟩ := (HR.out.below (hu.mono HBs.out)).atB hlt
      have e : A = some ad := e
      subst e
      have i0 : (0 : Int) ≤ (k : Int) := by omega
      have i1 : (k : Int) < (n : Int) := by omega
      obtain ⟨hkl, hxe⟩ := List.getElem?_eq_some_iff.1 (show l[k]? = some x from hx)
      have HT : Hid (l.take (k + 1) = l.take k ++ [x]) := Lib.hid (by rw [List.take_succ_eq_append_getElem hkl, hxe])
      have hl1 : (l.take k).length ≤ 10000 := by rw [List.length_take]; omega
      have HS : Hid (∀ W', Below w.heap.size w W' → (W'.cell? (ad.add (k * 5)) = some (.string x.msg) ∧ W'.cell? ⟨(ad.add (k * 5)).block, (ad.add (k * 5)).off + 1, none⟩ = some (.string x.what) ∧ W'.cell? ⟨(ad.add (k * 5)).block, (ad.add (k * 5)).off + 2, none⟩ = some (.int .i64 x.num) ∧ W'.cell? ⟨(ad.add (k * 5)).block, (ad.add (k * 5)).off + 3, none⟩ = some (.int .i64 x.why) ∧ W'.cell? ⟨(ad.add (k * 5)).block, (ad.add (k * 5)).off + 4, none⟩ = some (.bool x.js))) := Lib.hid fun W' hb => by
        obtain ⟨ad', y, e', hy, d⟩ := (HR.out.below (hb.mono HBs.out)).atB hlt
        cases e'
        rw [hx] at hy
        cases hy
        exact d
      obtain ⟨x0, x1, x2, x3, x4⟩ := x
      simp only at a0 a1 a2 a3 a4 HS
      generalize hL1 : l.take k = L1 at hh hl1
      have HL1 := Lib.hid hl1
      have HLE := Lib.hid hL1
      have HU := Lib.hid hu
      obtain ⟨A1, c1, rfl, _⟩ := hh.out.own.form
      clear hx hl1 hL1 hxe hkl hu
      have hb14 : Below wr.heap.size wr (wr.drew.alloc (.cells #[.string x0, .string x1, .int .i64 x2, .int .i64 x3, .bool x4] 32)) := (Below.refl _ _).drew.alloc (Nat.le_refl _) _
      have HO14 : Hid (Ew BrkV.cells 32 5 (wr.drew.alloc (.cells #[.string x0, .string x1, .int .i64 x2, .int .i64 x3, .bool x4] 32)) w.heap.size (.slice A1 L1.length c1) L1) := Lib.hid (hh.out.own.below hb14)
      have HR14 : Hid (RS BrkV.cells 5 (wr.drew.alloc (.cells #[.string x0, .string x1, .int .i64 x2, .int .i64 x3, .bool x4] 32)) (wr.heap.size + 1) (some ⟨wr.heap.size, 0, none⟩) 1 [⟨x0, x1, x2, x3, x4⟩]) := Lib.hid (by
        have h := (Ew.lit (k := 5) BrkV.cells 32 (fun _ => rfl) wr.drew [⟨x0, x1, x2, x3, x4⟩] (by simp)).rs (fun _ => rfl) (by omega)
        have h2 : RS BrkV.cells 5 (wr.drew.alloc (.cells #[.string x0, .string x1, .int .i64 x2, .int .i64 x3, .bool x4] 32)) _ (some ⟨wr.drew.heap.size, 0, none⟩) 1 [⟨x0, x1, x2, x3, x4⟩] := h
        simpa using h2)
      have HB14 := Lib.hid hb14
      clear hb14
      go_wp2_with fail
      go_region_held3 (fun W' => (W'.cell? (ad.add (k * 5)) = some (.string x0) ∧ W'.cell? ⟨(ad.add (k * 5)).block, (ad.add (k * 5)).off + 1, none⟩ = some (.string x1) ∧ W'.cell? ⟨(ad.add (k * 5)).block, (ad.add (k * 5)).off + 2, none⟩ = some (.int .i64 x2) ∧ W'.cell? ⟨(ad.add (k * 5)).block, (ad.add (k * 5)).off + 3, none⟩ = some (.int .i64 x3) ∧ W'.cell? ⟨(ad.add (k * 5)).block, (ad.add (k * 5)).off + 4, none⟩ = some (.bool x4))) (first | exact HS.out _ HU.out | exact HS.out _ HU.out.drew | exact HS.out _ (HU.out.trans (HB14.out.mono HU.out.size)) | exact HS20.out) (first
        | (refine step_app_e elBrkR _ (by rfl) (.tmp 11) (.tmp 38) (by rfl) w.heap.size (.slice A1 L1.length c1) L1 (by rfl) HO14.out (wr.heap.size + 1) (some ⟨wr.heap.size, 0, none⟩) 1 1 [⟨x0, x1, x2, x3, x4⟩] (by rfl) HR14.out (by have := HL1.out; omega) (by have := HU.out.size; simp [World.drew]; omega) ?_
           intro A15 c15 w15 hown hg hv
           have HJ15 := Lib.hid (show RJ w.heap.size w (.slice none 0 0) (l.take (k + 1)) w15 (.slice A15 (L1.length + 1) c15) from ⟨by
             rw [HT.out, HLE.out]
             exact hown, hh.out.st.trans ((GrSt.of_below HB14.out).trans (GrSt.of_grown hg hv))⟩)
           have HS20 := Lib.hid (HS.out _ (HJ15.out.st.under (fun g e => by cases e) (Nat.le_refl _)))
           clear hown hg hv))
      generalize Value.slice A15 (L1.length + 1) c15 = v20 at *
      go_wp2_with fail
      exact ⟨⟨k + 1, _, hlt, by go_num, rfl, HJ15⟩, by simp [intOf]; omega⟩
    · obtain rfl : k = n := by omega
      have h1 := hh.out
      rw [List.take_of_length_le (by rw [HR.out.1]; exact Nat.le_refl _)] at h1
      have HJ := Lib.hid h1
      have HU := Lib.hid hu
      clear h1 hh hu
      go_wp2
      go_ret
      exact ⟨v1, rfl, Lib.hid ⟨HJ.out.own, HU.out⟩⟩
end Go.Proofs.Ytcjcpkjdhagofaa
