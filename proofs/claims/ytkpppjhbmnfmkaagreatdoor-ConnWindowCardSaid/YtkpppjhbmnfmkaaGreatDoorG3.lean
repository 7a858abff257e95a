/-
  Contract: (*Conn).takes: a frame that says something, at an end that has no list under way.
-/
import Derived.Test.YtkpppjhbmnfmkaaGreatDoorJo
import Derived.BigQuiet
import Derived.Deep.RegionHeld3
set_option linter.unusedSimpArgs false
set_option linter.unusedVariables false
namespace Go.Proofs.YtkpppjhbmnfmkaaGreatDoor
open Go.RowKit Go.Own Go.Own.Im Go.Own.Cx Go.Own.Fr
attribute [local go_sem] Oper.semAt_some
theorem CN.greets {w : World} {ow : Nat → Tg} {b : Nat} {M : Cv} {L : Lay} (h : CN w ow b M L) : CN (w.setCell ⟨b, 4, none⟩ (.bool true)) ow b { M with greeted := true } L ∧ Fr w ow (w.setCell ⟨b, 4, none⟩ (.bool true)) ow := h.cell 4 _ rfl h.p
theorem zero_do (w : World) : (zeroValue 200).run Tryz.prog w = .ok .nilFunc w := by kernel_rfl
set_option maxRecDepth 100000 in
theorem neq_func (f : Fn) (a c : Array Value) (w : World) : (binOp .neq 200 (.func f a c) .nilFunc).run Tryz.prog w = .ok (.bool true) w := by
  rfl
theorem assert_nil (w : World) : (Instr.typeAssert .nilIface 28 196 true).run Tryz.prog w = .ok (.tuple #[.pointer none, .bool false]) w := by
  simp [Instr.typeAssert, go_sem]
theorem look_wk {w : World} {g m b t : Nat} {v : Value} (h : HM Tryz.prog 3 w g 9 (wkF m b)) (ht : t ≤ 255) (hv : wkF m b (t : Int) = some v) :
    (Instr.lookup 201 (.map (some g)) (.int .i64 (t : Int)) false).run Tryz.prog w = .ok v w := by
  have hw : (Lit.int .i64 (t : Int)).wf = true := by simp [Lit.wf, IntKind.min, IntKind.max, IntKind.bits, IntKind.signed]; omega
  have := h.look Tryz.underlying201 Tryz.underlying3 (zero_do w) hw
  rw [hv] at this
  exact this
set_option maxHeartbeats 8000000 in
set_option maxRecDepth 100000 in
theorem takes_any (w : World) (ow : Nat → Tg) (b : Nat) (M : Cv) (L : Lay) (Q : Ending → World → Prop) (t f s K : Nat) (fst : Array Value) (cap : Nat → Array Value) (A : Option Addr) (n c : Nat) (l : List UInt8) (j : Inf)
    (h : CN w ow b M L) (hr : Rd w w.heap.size A n l) (hno : 0 < n → ∀ ad, A = some ad → ow ad.block = .no) (hc : n ≤ c) (hn : n ≤ 16384) (ht : t ≤ 255) (hf : f ≤ 255) (hs : s ≤ 2147483647) (hp : hasF t f 8 = false) (hk : t ≠ 2 ∧ t ≠ 5 ∧ (t = 1 → hasF t f 32 = false)) (hl : M.list = none) (h9 : t ≠ 9)
    (hgr : M.greeted = true ∨ (t = 4 ∧ f &&& 1 = 0)) (ho : opn t f s l = .ok j) (hfn : ∀ g, wkF g b (t : Int) = some (.func (.func K) fst (cap g))) (hE : Enters Tryz.prog K)
    (hret : ∀ e w', Q e w' → e = .returned (.tuple #[]) ∨ ∃ cs, e = .panicked cs)
    (hw : ∀ W g sv dv, CN W ow b { M with greeted := true } L → Fr w ow W ow → Blk W g 26 #[.pointer (some ⟨b, 0, none⟩)] → w.heap.size ≤ g → SetO W w.heap.size sv j.sets → Ow W w.heap.size 5 dv j.data.length j.data →
      Calls Tryz.prog K (fst ++ (#[.agg (infC j sv dv), .int .i64 (n : Nat)] ++ cap g)) W Q) :
    Calls Tryz.prog 72 #[.pointer (some ⟨b, 0, none⟩), .agg #[.int .i64 (t : Nat), .int .i64 (f : Nat), .int .i64 (s : Nat), .slice A n c]] w Q := by
  have hta := assert_nil
  have hE : ∀ args w, (callFunc K args).run Tryz.prog w = .ok (.enter K args) w := hE
  have HX := Lib.hid (Blk.new w 24 #[.int .i64 (t : Nat), .int .i64 (f : Nat), .int .i64 (s : Nat), .slice A n c])
  have HB0 := Lib.hid ((Below.refl w.heap.size w).alloc (Nat.le_refl _) (.cells #[.int .i64 (t : Nat), .int .i64 (f : Nat), .int .i64 (s : Nat), .slice A n c] 24))
  have HC := Lib.hid h
  have HR := Lib.hid hr
  have HNo := Lib.hid hno
  have HW := Lib.hid hw
  have HRet := Lib.hid hret
  have HFn := Lib.hid hfn
  have HO := Lib.hid ho
  have HH := Lib.hid (show _ ∧ _ ∧ _ ∧ _ ∧ _ ∧ _ ∧ _ from ⟨hc, hn, ht, hf, hs, hp, hk⟩)
  have e1 : bits .and .i64 (f : Int) 1 = ((f &&& 1 : Nat) : Int) := and_nat f 1 (by omega) (by omega)
  obtain ⟨q, hq⟩ : ∃ q, f &&& 1 = q := ⟨_, rfl⟩
  rw [hq] at e1 hgr
  have hq0 : M.greeted = true ∨ (((t : Int) != 4) = false ∧ ((q : Int) != 0) = false) := by
    rcases hgr with hg | ⟨h1, h2⟩
    · exact .inl hg
    · subst h1 h2; exact .inr ⟨rfl, rfl⟩
  have h9' : ((t : Int) == 9) = false := by simp; omega
  have HL := Lib.hid (show L.list = .pointer none from by have := h.p.lst; rw [hl] at this; exact this)
  have HGr := Lib.hid hq0
  have HQ := Lib.hid hq
  clear h hr hno hw hret hfn ho hc hn ht hf hs hp hk hl h9 hgr hq hq0
  go_enter Tryz.func72, Tryz.ntmps72
  go_upto_region 1 with fail
  generalize w.alloc (.cells #[.int .i64 (t : Nat), .int .i64 (f : Nat), .int .i64 (s : Nat), .slice A n c] 24) = W0 at *
  have HC0 := Lib.hid (HC.out.below HB0.out)
  have x0 : W0.cell? ⟨w.heap.size, 0, none⟩ = some (.int .i64 (t : Nat)) := HX.out.cell 0
  have x1 : W0.cell? ⟨w.heap.size, 1, none⟩ = some (.int .i64 (f : Nat)) := HX.out.cell 1
  have x2 : W0.cell? ⟨w.heap.size, 2, none⟩ = some (.int .i64 (s : Nat)) := HX.out.cell 2
  have c3 : W0.cell? ⟨b, 3, none⟩ = some L.fed := HC0.out.blk.cell 3
  have c4 : W0.cell? ⟨b, 4, none⟩ = some (.bool M.greeted) := HC0.out.blk.cell 4
  have f4 := HC0.out.blk.frozen 4
  cases hgv : M.greeted
  case' false =>
    have hgg := HGr.out
    rw [hgv] at hgg c4
    obtain ⟨hg1, hg2⟩ := hgg.resolve_left (by decide)
    clear hgg hgv
    go_upto_region 5 with fail
    clear hg1 hg2
  case' true =>
    rw [hgv] at c4
    clear hgv
    go_upto_region 5 with fail
  all_goals
    have hgt := HC0.out.greets
    have HC1 := Lib.hid hgt.1
    have HF1 := Lib.hid ((Fr.below HB0.out ow).trans hgt.2)
    have HX1 := Lib.hid (HX.out.far (p := ⟨b, 4, none⟩) (by have := HC.out.blk.lt; show w.heap.size ≠ b; omega) (.bool true))
    clear hgt x0 x1 x2 c3 c4 f4
    generalize W0.setCell ⟨b, 4, none⟩ (.bool true) = W1 at *
    have x0 : W1.cell? ⟨w.heap.size, 0, none⟩ = some (.int .i64 (t : Nat)) := HX1.out.cell 0
    have x1 : W1.cell? ⟨w.heap.size, 1, none⟩ = some (.int .i64 (f : Nat)) := HX1.out.cell 1
    have x2 : W1.cell? ⟨w.heap.size, 2, none⟩ = some (.int .i64 (s : Nat)) := HX1.out.cell 2
    have x3 : W1.cell? ⟨w.heap.size, 3, none⟩ = some (.slice A n c) := HX1.out.cell 3
    have c16 : W1.cell? ⟨b, 16, none⟩ = some L.list := HC1.out.blk.cell 16
    rw [HL.out] at c16
    go_wp2_with fail
    go_quiet (fail)
    have HOpn := Lib.hid (fun n1 => open_more t f s A n c w.heap.size l (W1.drewN n1) (HF1.out.rd HR.out (Nat.le_refl _) HNo.out) HF1.out.size HH.out.1 (by have := HH.out.2.1; omega) HH.out.2.2.1 HH.out.2.2.2.1 HH.out.2.2.2.2.1 HH.out.2.2.2.2.2.1 HH.out.2.2.2.2.2.2)
    go_upto_region 8 with fail
    go_wp2_with fail
    refine (HOpn.out _).mono ?_
    intro e w2 hp
    obtain ⟨hb2, hm⟩ := hp
    simp only [HO.out] at hm
    obtain ⟨sv, dv, rfl, hsv, hdv⟩ := hm
    obtain ⟨A5, c5, rfl, _, _⟩ := hsv.form
    obtain ⟨A6, c6, rfl, _, _, _⟩ := hdv.form
    have HB2 := Lib.hid (show Below W1.heap.size W1 w2 from below_drewN (Below.refl W1.heap.size W1) _ |>.trans hb2)
    have HSv := Lib.hid hsv
    have HDv := Lib.hid hdv
    have HC2 := Lib.hid (HC1.out.below HB2.out)
    have HX2 := Lib.hid (HX1.out.below HB2.out HX1.out.lt)
    have HF2 := Lib.hid (HF1.out.trans (Fr.below HB2.out ow))
    clear hb2 hsv hdv x0 x1 x2 x3 c16
    go_upto_region 12 with (first
      | (refine wpList_rowPut _ rfl (.tmp 6) (.tmp 72) 91 rfl w2.heap.size 91 (infC {} (.slice none 0 0) (.slice none 0 0)) _ rfl rfl (Blk.new w2 91 _) infSize rfl (infC_one _ _ _ _ _ _ _) ?_
         intro W3 hb3 hg3
         have HI3 := Lib.hid hb3
         have HB3 := Lib.hid (((Below.refl w2.heap.size w2).alloc (Nat.le_refl _) (.cells (infC {} (.slice none 0 0) (.slice none 0 0)) 91)).grown hg3 (by simp) (fun g e => by injection e with e; omega))
         clear hb3 hg3)
      | fail)
    have HB13 := Lib.hid (HB2.out.trans (HB3.out.mono HB2.out.size))
    have HC3 := Lib.hid (HC2.out.below HB3.out)
    have HX3 := Lib.hid (HX1.out.below HB13.out HX1.out.lt)
    have HF3 := Lib.hid (HF2.out.trans (Fr.below HB3.out ow))
    have HS0 := Lib.hid (show W3.cell? ⟨w.heap.size, 0, none⟩ = some (.int .i64 (t : Nat)) from HX3.out.cell 0)
    have HS0d := Lib.hid (show W3.drew.cell? ⟨w.heap.size, 0, none⟩ = some (.int .i64 (t : Nat)) from HX3.out.cell 0)
    have HWk := Lib.hid (fun W => works_any b W)
    go_region_held3 (fun W' => W'.cell? ⟨w.heap.size, 0, none⟩ = some (.int .i64 (t : Nat))) (first | with_reducible exact HS0.out | with_reducible exact HS0d.out | with_reducible exact HS4.out | with_reducible exact HS4d.out) (first
      | (go_at_call 115
         with_reducible refine Calls.mono (HWk.out _) ?_
         rintro e w4 ⟨rfl, hbk4, hm4, hb4⟩
         have hb4 : Below W3.heap.size W3 w4 := below_of_drew hb4
         have HB4 := Lib.hid hb4
         have HK4 := Lib.hid (show Blk w4 W3.heap.size 26 #[.pointer (some ⟨b, 0, none⟩)] from hbk4)
         have hlk4 : (Instr.lookup 201 (.map (some (W3.heap.size + 1))) (.int .i64 (t : Int)) false).run Tryz.prog w4 = .ok (.func (.func K) fst (cap W3.heap.size)) w4 := look_wk (t := t) hm4 HH.out.2.2.1 (HFn.out _)
         have hlk4d : (Instr.lookup 201 (.map (some (W3.heap.size + 1))) (.int .i64 (t : Int)) false).run Tryz.prog w4.drew = .ok (.func (.func K) fst (cap W3.heap.size)) w4.drew := look_wk (t := t) (w := w4.drew) hm4 HH.out.2.2.1 (HFn.out _)
         have HS4 := Lib.hid (show w4.cell? ⟨w.heap.size, 0, none⟩ = some (.int .i64 (t : Nat)) from (HX3.out.below hb4 HX3.out.lt).cell 0)
         have HS4d := Lib.hid (show w4.drew.cell? ⟨w.heap.size, 0, none⟩ = some (.int .i64 (t : Nat)) from HS4.out)
         clear hbk4 hm4 hb4)
      | fail)
  all_goals
    have HX4 := Lib.hid (HX3.out.below HB4.out HX3.out.lt)
    have HI4 := Lib.hid (HI3.out.below HB4.out HI3.out.lt)
    have y3 : w4.cell? ⟨w.heap.size, 3, none⟩ = some (.slice A n c) := HX4.out.cell 3
    clear hlk4 hlk4d
    have hnf := neq_func (.func K) fst (cap W3.heap.size)
    go_wp2_with (first
      | (refine wpList_rowGet _ rfl (.tmp 6) 91 rfl w2.heap.size 91 _ rfl HI4.out _ Tryz.underlying91 rfl infSize ?_)
      | fail)
    have HC4 := Lib.hid (HC3.out.below HB4.out)
    have HF4 := Lib.hid (HF3.out.trans (Fr.below HB4.out ow))
    have hz1 := HF1.out.size
    have hz2 := HB2.out.size
    have hz3 := HB3.out.size
    have HB14 := Lib.hid (HB3.out.trans (HB4.out.mono hz3))
    refine (HW.out w4 W3.heap.size _ _ HC4.out HF4.out HK4.out (by omega) ?_ ?_).mono ?_
    · exact ew_base (HSv.out.below HB14.out) hz1
    · exact (HDv.out.below HB14.out (fun g hg => (HDv.out.lt hg).1)).base hz1
    intro e w5 hq
    rcases HRet.out e w5 hq with rfl | ⟨cs, rfl⟩
    · have HQ5 := Lib.hid hq
      clear hq
      go_wp2
      go_end0
      exact HQ5.out
    · have HQ5 := Lib.hid hq
      clear hq
      go_wp2
      exact ⟨rfl, HQ5.out⟩
end Go.Proofs.YtkpppjhbmnfmkaaGreatDoor
