/-
  The walk of ConnDead.
-/
import Derived.Test.YtdkfbkjmhgbppaaGreatDoorJw
set_option linter.unusedSimpArgs false
set_option linter.unusedVariables false
namespace Go.Proofs.YtdkfbkjmhgbppaaGreatDoor
open Go.RowKit Go.Own Go.Own.Im Go.Own.Cx Go.Own.Fr Go.Own.Hd
theorem says_cn {w w' : World} {ow : Nat → Tg} {b : Nat} {M : Cv} {L : Lay} {a : Addr} {v : Value} {e : Ending} (h : Says w v e w') (hc : CN w ow b M L) (hg : GoneAt w a) : e = .returned v ∧ CN w' ow b M L ∧ GoneAt w' a ∧ Fr w ow w' ow := by
  obtain ⟨rfl, n, rfl⟩ := h
  exact ⟨rfl, hc.drewN n, hg, Fr.drewN w ow n⟩
theorem GoneAt.fr {w w' : World} {ow ow' : Nat → Tg} {a : Addr} (hg : GoneAt w a) (hE : Env w ow) (h : Fr w ow w' ow') : GoneAt w' a :=
  (World.cell?_of_block (a := ⟨1, 0, none⟩) (h.keep _ (Nat.lt_of_lt_of_le (by decide) hE.room) (hE.no _ (by decide)))).trans hg
theorem GoneAt.below {w w' : World} {a : Addr} (hg : GoneAt w a) (hz : 20 ≤ w.heap.size) (h : Below w.heap.size w w') : GoneAt w' a :=
  (h.cell (p := ⟨1, 0, none⟩) (Nat.lt_of_lt_of_le (by decide : 1 < 20) hz)).trans hg
set_option maxHeartbeats 16000000 in
set_option maxRecDepth 100000 in
/-- Too much to be looked at. -/
theorem dead_much (w : World) (hW : EnvW w) (side : Int) (Ab Al : Option Addr) (nb cb nl cl : Nat) (st n : Value) (h : 16384 < nb ∨ 100 < nl) :
    Calls Tryz.prog 8 #[.int .i64 side, .slice Ab nb cb, .slice Al nl cl, st, n] w fun e w' => e = .returned (.bool true) ∧ Below w.heap.size w w' := by
  have HF := Lib.hid (first_any w hW)
  have k : ((16384 : Int) < (nb : Int)) = True ∨ (((16384 : Int) < (nb : Int)) = False ∧ ((100 : Int) < (nl : Int)) = True) := by
    simp only [eq_iff_iff, iff_true, iff_false]
    omega
  clear hW h
  rcases k with k1 | ⟨k1, k2⟩
  all_goals
    go_enter Tryz.func8, Tryz.ntmps8
    go_wp2_with fail
    refine HF.out.mono ?_
    rintro e w1 ⟨rfl, hb1⟩
    have HB1 := Lib.hid hb1
    clear hb1
    go_wp2
    go_ret
    exact ⟨rfl, HB1.out⟩
set_option maxHeartbeats 16000000 in
set_option maxRecDepth 100000 in
theorem dead_side (w : World) (hW : EnvW w) (a : Addr) (hg : GoneAt w a) (side : Int) (s : Nat) (hs : s = 1 ∨ s = 2) (hsd : bits .and .i64 side 1 = (s : Int) - 1) (Ab Al : Option Addr) (nb cb nl cl : Nat) (st : Int) (n : Int) (hst : (Lit.int .i64 st).wf = true) (h1 : ¬ 16384 < nb) (h2 : ¬ 100 < nl) :
    Calls Tryz.prog 8 #[.int .i64 side, .slice Ab nb cb, .slice Al nl cl, .int .i64 st, .int .i64 n] w fun e w' => e = .returned (.bool true) ∧ Below w.heap.size w w' := by
  have HW := Lib.hid hW
  have HG := Lib.hid hg
  have HF := Lib.hid (first_any w hW)
  have HSt := Lib.hid hst
  have HNw := Lib.hid (fun w => newS_any s hs w 65535 10 (by decide) (by decide))
  have HHl := Lib.hid (helloS_any s hs)
  have HSs := Lib.hid (show SideOk s from hs)
  have hee := eql_same a
  have k1 : ((16384 : Int) < (nb : Int)) = False := by simp only [eq_iff_iff, iff_false]; omega
  have k2 : ((100 : Int) < (nl : Int)) = False := by simp only [eq_iff_iff, iff_false]; omega
  clear hW hg h1 h2 hst hs
  rcases (show s = 1 ∨ s = 2 from HSs.out) with rfl | rfl
  all_goals
    have hsd' := hsd
    clear hsd
    go_enter Tryz.func8, Tryz.ntmps8
    go_wp2_with fail
    refine HF.out.mono ?_
    rintro e w1 ⟨rfl, hb1⟩
    have HB1 := Lib.hid hb1
    have HW1 := Lib.hid (HW.out.below hb1)
    have HG1 := Lib.hid (HG.out.below HW.out.room hb1)
    clear hb1
    simp at hsd'
    go_wp2_with fail
    refine (HNw.out w1).mono ?_
    rintro e w2 ⟨b, ow2, L2, rfl, hc2, hb2, ho2⟩
    have HB2 := Lib.hid (HB1.out.trans (hb2.mono HB1.out.size))
    have HC2 := Lib.hid hc2
    have HO2 := Lib.hid (show ∀ g, g < w.heap.size → ow2 g = .no from fun g hg => ho2 g (Nat.lt_of_lt_of_le hg HB1.out.size))
    have HE2 := Lib.hid (HW1.out.of hb2 ho2)
    have HG2 := Lib.hid (HG1.out.below HW1.out.room hb2)
    clear hb2 hc2 ho2
    go_wp2_with fail
    refine (HHl.out w2).mono ?_
    rintro e w3 ⟨A3, n3, c3, rfl, hn3, hz3, hb3⟩
    have HC3 := Lib.hid (HC2.out.below hb3)
    have HF3 := Lib.hid (Fr.below hb3 ow2)
    have HE3 := Lib.hid (HE2.out.fr HF3.out)
    have HZ3 := Lib.hid hz3
    have hn3' : n3 ≤ 140737488355328 := by omega
    clear hb3 hz3 hn3
    go_wp2_with fail
    refine (feed_any w3 ow2 b _ L2 _ 26 A3 _ c3 _ HE3.out HC3.out HZ3.out.rd (HZ3.out.tagged HC2.out.new) rfl (by show 0 + n3 ≤ _; omega) (runs_helloS _ 10 HSs.out)).mono ?_
    rintro e w4 ⟨M4, A4, c4, ow4, L4, rfl, rfl, hle4, hc4, hf4, _, _, _⟩
    have HC4 := Lib.hid (show CN w4 ow4 b (gM _ 10) L4 from hc4)
    have HF4 := Lib.hid (HF3.out.trans hf4)
    clear hle4 hc4 hf4 HC3 HE3 HZ3 hn3'
    go_wp2_with fail
    refine (lawFrame_any none 0 0 9 4 1 w4.heap.size [] w4 ⟨rfl, fun h => absurd h (by omega)⟩ (Nat.le_refl _) (by decide) (by decide) (by decide) (by decide)).mono ?_
    rintro e w5 ⟨A5, c5, rfl, ho5, hb5⟩
    have HC5 := Lib.hid (HC4.out.below hb5)
    have HF5 := Lib.hid (HF4.out.trans (Fr.below hb5 ow4))
    have HE5 := Lib.hid (HE2.out.fr HF5.out)
    have HO5 := Lib.hid ho5
    clear ho5 hb5
    go_wp2_with fail
    refine (feed_any w5 ow4 b _ L4 _ 1 A5 _ c5 _ HE5.out HC5.out HO5.out.rd (HO5.out.tagged HC4.out.new) rfl (by show 0 + (9 + 0) ≤ _; decide) (runs_contS _ 10)).mono ?_
    rintro e w6 ⟨M6, A6, c6, ow6, L6, rfl, rfl, hle6, hc6, hf6, _, _, _⟩
    have HC6 := Lib.hid (show CN w6 ow6 b (dM _ 10) L6 from hc6)
    have HF6 := Lib.hid (HF5.out.trans hf6)
    clear hle6 hc6 hf6 HC5 HE5 HO5 HC4 HF4 HF5
    go_wp2_with fail
    refine (dead_any w6 ow6 b _ L6 HC6.out).mono ?_
    rintro e w7 ⟨rfl, m, hw7⟩
    have HC7 := Lib.hid (show CN w7 ow6 b (dM _ 10) L6 from hw7 ▸ HC6.out.drewN m)
    have HF7 := Lib.hid (show Fr w2 ow2 w7 ow6 from hw7 ▸ (HF6.out.trans (Fr.drewN w6 ow6 m)))
    clear hw7 HC6 HF6
    rw [show (((dM _ 10 : Cv).code : Nat) : Int) = 1 from rfl, show (dM _ 10 : Cv).dead = true from rfl]
    go_wp2_with fail
    refine (output_still w7 ow6 b _ L6 HC7.out List.Pairwise.nil (Nat.zero_le _) (fun s hs => by cases hs) (.inl rfl)).mono ?_
    rintro e w8 ⟨A8, c8, ow8, L8, rfl, hle8, hr8, ht8, hc8, hf8⟩
    have HC8 := Lib.hid hc8
    have HF8 := Lib.hid (HF7.out.trans hf8)
    have HG8 := Lib.hid (HG2.out.fr HE2.out HF8.out)
    clear hle8 hr8 ht8 hc8 hf8 HC7 HF7
    go_wp2_with fail
    refine (open_dead HC8.out rfl HG8.out _ _).mono ?_
    intro e w9 h9
    obtain ⟨rfl, hc9, hg9, hf9⟩ := says_cn h9 HC8.out HG8.out
    have HC9 := Lib.hid hc9
    have HG9 := Lib.hid hg9
    have HF9 := Lib.hid (HF8.out.trans hf9)
    clear h9 hc9 hg9 hf9 HC8 HG8 HF8
    go_wp2_with fail
    refine (answer_dead HC9.out rfl rfl HG9.out st HSt.out _ _).mono ?_
    intro e w10 h9
    obtain ⟨rfl, hc9, hg9, hf9⟩ := says_cn h9 HC9.out HG9.out
    have HC10 := Lib.hid hc9
    have HG10 := Lib.hid hg9
    have HF10 := Lib.hid (HF9.out.trans hf9)
    clear h9 hc9 hg9 hf9 HC9 HG9 HF9
    go_wp2_with fail
    refine (send_err (sending_dead HC10.out rfl rfl HG10.out st HSt.out) _ _).mono ?_
    intro e w11 h9
    obtain ⟨rfl, hc9, hg9, hf9⟩ := says_cn h9 HC10.out HG10.out
    have HC11 := Lib.hid hc9
    have HG11 := Lib.hid hg9
    have HF11 := Lib.hid (HF10.out.trans hf9)
    clear h9 hc9 hg9 hf9 HC10 HG10 HF10
    go_wp2_with fail
    refine (trail_err (sending_dead HC11.out rfl rfl HG11.out st HSt.out) _).mono ?_
    intro e w12 h9
    obtain ⟨rfl, hc9, hg9, hf9⟩ := says_cn h9 HC11.out HG11.out
    have HC12 := Lib.hid hc9
    have HG12 := Lib.hid hg9
    have HF12 := Lib.hid (HF11.out.trans hf9)
    clear h9 hc9 hg9 hf9 HC11 HG11 HF11
    go_wp2_with fail
    refine (reset_err (there_dead HC12.out rfl rfl HG12.out st HSt.out)).mono ?_
    intro e w13 h9
    obtain ⟨rfl, hc9, hg9, hf9⟩ := says_cn h9 HC12.out HG12.out
    have HC13 := Lib.hid hc9
    have HG13 := Lib.hid hg9
    have HF13 := Lib.hid (HF12.out.trans hf9)
    clear h9 hc9 hg9 hf9 HC12 HG12 HF12
    go_wp2_with fail
    refine (ate_err (there_dead HC13.out rfl rfl HG13.out st HSt.out)).mono ?_
    intro e w14 h9
    obtain ⟨rfl, hc9, hg9, hf9⟩ := says_cn h9 HC13.out HG13.out
    have HC14 := Lib.hid hc9
    have HG14 := Lib.hid hg9
    have HF14 := Lib.hid (HF13.out.trans hf9)
    clear h9 hc9 hg9 hf9 HC13 HG13 HF13
    go_wp2_with fail
    refine (ping_dead HC14.out rfl HG14.out _).mono ?_
    intro e w15 h9
    obtain ⟨rfl, hc9, hg9, hf9⟩ := says_cn h9 HC14.out HG14.out
    have HC15 := Lib.hid hc9
    have HG15 := Lib.hid hg9
    have HF15 := Lib.hid (HF14.out.trans hf9)
    clear h9 hc9 hg9 hf9 HC14 HG14 HF14
    go_wp2_with fail
    refine (bye_dead HC15.out rfl HG15.out _).mono ?_
    intro e w16 h9
    obtain ⟨rfl, hc9, hg9, hf9⟩ := says_cn h9 HC15.out HG15.out
    have HC16 := Lib.hid hc9
    have g0 := hg9
    unfold GoneAt at g0
    have HF16 := Lib.hid (HF15.out.trans hf9)
    clear h9 hc9 hg9 hf9 HC15 HG15 HF15
    go_wp2_with fail
    clear g0
    refine (feed_dead w16 _ b _ _ _ HC16.out rfl).mono ?_
    rintro e w17 ⟨M17, A17, c17, ow17, L17, rfl, rfl, hle17, hc17, hf17, _, _, _⟩
    rw [show ({ (dM _ 10 : Cv) with out := [], evs := [] } : Cv).evs.length = 0 from rfl]
    have HC17 := Lib.hid hc17
    have HF17 := Lib.hid (HF16.out.trans hf17)
    clear hle17 hc17 hf17 HC16 HF16
    go_wp2_with fail
    refine (output_still w17 ow17 b _ L17 HC17.out List.Pairwise.nil (Nat.zero_le _) (fun s hs => by cases hs) (.inl rfl)).mono ?_
    rintro e w18 ⟨A18, c18, ow18, L18, rfl, hle18, hr18, ht18, hc18, hf18⟩
    rw [show ({ ({ (dM _ 10 : Cv) with out := [], evs := [] } : Cv) with evs := [] } : Cv).out.length = 0 from rfl]
    have HC18 := Lib.hid hc18
    have HF18 := Lib.hid (HF17.out.trans hf18)
    clear hle18 hr18 ht18 hc18 hf18 HC17 HF17
    go_wp2_with fail
    refine (streams_any w18 ow18 b _ L18 HC18.out List.Pairwise.nil (Nat.zero_le _)).mono ?_
    rintro e w19 ⟨A19, c19, rfl, _, hb19⟩
    have HF19 := Lib.hid (HF18.out.trans (Fr.below hb19 ow18))
    clear hb19 HC18 HF18
    go_wp2
    go_ret
    exact ⟨rfl, HF19.out.toBelow HB2.out HO2.out⟩
/-- ConnDead. -/
theorem connDead_any (w : World) (hW : EnvW w) (a : Addr) (hg : GoneAt w a) (side : Int) (Ab Al : Option Addr) (nb cb nl cl : Nat) (st n : Int) (hst : (Lit.int .i64 st).wf = true) :
    Calls Tryz.prog 8 #[.int .i64 side, .slice Ab nb cb, .slice Al nl cl, .int .i64 st, .int .i64 n] w fun e w' => e = .returned (.bool true) ∧ Below w.heap.size w w' := by
  by_cases h : 16384 < nb ∨ 100 < nl
  · exact dead_much w hW side Ab Al nb cb nl cl _ _ h
  · obtain ⟨q, hq, e⟩ := and_mask side 1 (by decide)
    exact dead_side w hW a hg side (q + 1) (by omega) (by rw [show ((1 : Nat) : Int) = 1 from rfl] at e; rw [e]; omega) Ab Al nb cb nl cl st n hst (fun hh => h (.inl hh)) (fun hh => h (.inr hh))
end Go.Proofs.YtdkfbkjmhgbppaaGreatDoor
