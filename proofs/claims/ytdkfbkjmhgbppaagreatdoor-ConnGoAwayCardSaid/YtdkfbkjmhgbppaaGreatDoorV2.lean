/-
  The walk of ConnGoAway.
-/
import Derived.Test.YtdkfbkjmhgbppaaGreatDoorJz
import Derived.Test.YtdkfbkjmhgbppaaGreatDoorKa
import Derived.Test.YtdkfbkjmhgbppaaGreatDoorT3
import Derived.Test.YtdkfbkjmhgbppaaGreatDoorJw
set_option linter.unusedSimpArgs false
set_option linter.unusedVariables false
namespace Go.Proofs.YtdkfbkjmhgbppaaGreatDoor
open Go.RowKit Go.Own Go.Own.Im Go.Own.Cx Go.Own.Fr Go.Own.Hd
set_option maxHeartbeats 1000000 in
set_option maxRecDepth 100000 in
theorem lawNumberO_any (n : Nat) (w : World) (hn : n < 4294967296) :
    Calls Tryz.prog 16 #[.int .i64 (n : Nat)] w fun e w' => e = .returned (.slice (some ⟨w.heap.size, 0, none⟩) 4 4) ∧ Ow w' w.heap.size 5 (.slice (some ⟨w.heap.size, 0, none⟩) 4 4) 4 (be n 4) ∧ Below w.heap.size w w' := by
  go_enter Tryz.func16, Tryz.ntmps16
  go_wp2
  go_ret
  refine ⟨rfl, ?_, (Below.refl _ _).alloc (Nat.le_refl _) _⟩
  refine (congrArg (fun cs => Ow (w.alloc (.cells cs 5)) w.heap.size 5 (.slice (some ⟨w.heap.size, 0, none⟩) 4 4) 4 (be n 4)) ?_).mp (Ow.lit w 5 (be n 4) (by simp [be_len]))
  simp [be, bv]
  omega
/-- Between two openings. -/
def GoR (b n : Nat) (w2 : World) (ow2 : Nat → Tg) (iv : Value) (wr : World) : Prop :=
  ∃ (k : Nat) (ow' : Nat → Tg) (L' : Lay), iv = .int .i64 (k : Nat) ∧ k ≤ n ∧ CN wr ow' b (clM k) L' ∧ Fr w2 ow2 wr ow'
/-- Between two events that are wanted. -/
def WaR (last code n : Nat) (w8 : World) (wv lv iv : Value) (wr : World) : Prop :=
  ∃ (k c : Nat) (A : Option Addr), wv = .slice A (wantE last code k).length c ∧ lv = .int .i64 (leftN last k : Nat) ∧ iv = .int .i64 (k : Nat) ∧ k ≤ n ∧ Cm.Ew evC 40 7 wr w8.heap.size (.slice A (wantE last code k).length c) (wantE last code k) ∧ Below w8.heap.size w8 wr
set_option maxHeartbeats 16000000 in
set_option maxRecDepth 100000 in
theorem goAway_small (w : World) (hW : EnvW w) (a : Addr) (hg : GoneAt w a) (nv lv cv : Int) (n last code : Nat) (hn : bits .and .i64 nv 7 = (n : Int)) (hla : bits .and .i64 lv 15 = (last : Int)) (hco : bits .and .i64 cv 255 = (code : Int)) (hn7 : n ≤ 7) (hl15 : last ≤ 15) (hc255 : code ≤ 255) :
    Calls Tryz.prog 6 #[.int .i64 nv, .int .i64 lv, .int .i64 cv] w fun e w' => e = .returned (.bool true) ∧ Below w.heap.size w w' := by
  have HW := Lib.hid hW
  have HG := Lib.hid hg
  have HF := Lib.hid (first_any w hW)
  have HH := Lib.hid (show _ ∧ _ ∧ _ from ⟨hn7, hl15, hc255⟩)
  have hee := eql_same a
  clear hW hg hn7 hl15 hc255
  go_enter Tryz.func6, Tryz.ntmps6
  go_wp2_with fail
  refine HF.out.mono ?_
  rintro e w1 ⟨rfl, hb1⟩
  have HB1 := Lib.hid hb1
  have HW1 := Lib.hid (HW.out.below hb1)
  have HG1 := Lib.hid (HG.out.below HW.out.room hb1)
  clear hb1
  go_wp2_with fail
  refine (new1_any w1 65535 0 (by decide) (by decide)).mono ?_
  rintro e w2 ⟨b, ow2, L2, rfl, hc2, hb2, ho2⟩
  have HB2 := Lib.hid (HB1.out.trans (hb2.mono HB1.out.size))
  have HC2 := Lib.hid hc2
  have HO2 := Lib.hid (show ∀ g, g < w.heap.size → ow2 g = .no from fun g hg => ho2 g (Nat.lt_of_lt_of_le hg HB1.out.size))
  have HE2 := Lib.hid (HW1.out.of hb2 ho2)
  have HG2 := Lib.hid (HG1.out.below HW1.out.room hb2)
  clear hb2 hc2 ho2
  go_wp2_with fail
  refine (hello1_any w2).mono ?_
  rintro e w3 ⟨A3, c3, rfl, hz3, hb3⟩
  have HC3 := Lib.hid (HC2.out.below hb3)
  have HF3 := Lib.hid (Fr.below hb3 ow2)
  have HE3 := Lib.hid (HE2.out.fr HF3.out)
  have HZ3 := Lib.hid hz3
  clear hb3 hz3
  go_wp2_with fail
  refine (feed_any w3 ow2 b _ L2 _ 26 A3 _ c3 _ HE3.out HC3.out HZ3.out.rd (HZ3.out.tagged HC2.out.new) rfl (by show 0 + 9 ≤ _; decide) (runs_helloS 1 0 (.inl rfl))).mono ?_
  rintro e w4 ⟨M4, A4, c4, ow4, L4, rfl, rfl, hle4, hc4, hf4, _, _, _⟩
  have HC4 := Lib.hid (show CN w4 ow4 b (clM 0) L4 from hc4)
  have HF4 := Lib.hid (HF3.out.trans hf4)
  clear hle4 hc4 hf4 HC3 HE3 HZ3
  go_upto_region 10 with fail
  clear hn hla hco
  go_loopw [10] (fun iv wr => Hid (GoR b n w2 ow2 iv wr)) (fun iv _ => n - (intOf iv).toNat)
  case atStart => exact ⟨0, ow4, L4, rfl, Nat.zero_le _, HC4.out, HF4.out⟩
  case round =>
    obtain ⟨k, owr, Lr, rfl, hkn, hcr, hfr⟩ := hrel
    have HCr := Lib.hid hcr
    have HFr := Lib.hid hfr
    have HK := Lib.hid hkn
    clear hcr hfr hkn
    by_cases hlt : k < n
    · have hltI : (k : Int) < (n : Int) := by omega
      have hk7 : k < 7 := by have := HH.out.1; omega
      have HLt := Lib.hid hlt
      go_wp2_with fail
      clear hltI hlt
      refine (post_any wr).mono ?_
      rintro e w5 ⟨rfl, hr5, hb5⟩
      have HC5 := Lib.hid (HCr.out.below hb5)
      have HF5 := Lib.hid (HFr.out.trans (Fr.below hb5 owr))
      have HR5 := Lib.hid hr5
      have HN5 := Lib.hid (HCr.out.new wr.heap.size (Nat.le_refl _))
      clear hr5 hb5 HCr HFr
      go_wp2_with fail
      have hM := (clM_eq k).1
      have hnx := clM_nxt k
      refine (copen_any w5 owr b (clM k) Lr (some ⟨wr.heap.size, 0, none⟩) 3 hs3 ix3n false (HE2.out.fr HF5.out) HC5.out (by rw [hM]; rfl) (by rw [hM]; rfl) (by rw [hM]; rfl) (by rw [hM]; rfl) (by rw [clM_len, hM]; show (k : Int) < 2147483647; omega) (by rw [hnx]; omega)
        (fun s hs => by obtain ⟨j, hj, rfl⟩ := clM_mem k s hs; rw [hnx]; show 2 * j + 1 ≠ _; omega) ((clM_sorted k).imp fun h => Nat.ne_of_lt h) (by rw [hM]; exact (show (0 : Int) ≤ 65535 ∧ (65535 : Int) ≤ 2147483647 by decide)) (by rw [hM]; exact (show (0 : Int) ≤ 65535 ∧ (65535 : Int) ≤ 2147483647 by decide)) (by rw [clM_len]; omega) (by have := (clM_eq k).2; omega) HR5.out (fun ad e => by injection e with e; rw [← e]; exact HN5.out) ix83 hs3_nv (by decide) (by decide) hs3_sz hs3_hsz szs3 opn3).mono ?_
      intro e w6 hp
      obtain rfl := hp.ret
      obtain ⟨ow6, L6, _, hc6, hf6⟩ := hp
      have HC6 := Lib.hid (show CN w6 ow6 b (clM (k + 1)) L6 from hc6)
      have HF6 := Lib.hid (HF5.out.trans hf6)
      rw [hnx]
      obtain ⟨d, hd⟩ : ∃ d : Int, ((2 * k + 1 : Nat) : Int) = d := ⟨_, rfl⟩
      obtain ⟨d2, hd2⟩ : ∃ d : Int, wrap64 (2 * (k : Int)) = d := ⟨_, rfl⟩
      have hd3 : wrap64 (d2 + 1) = d := by rw [← hd, ← hd2]; unfold wrap64; omega
      rw [hd]
      have hk1 : wrap64 ((k : Int) + 1) = ((k + 1 : Nat) : Int) := by unfold wrap64; omega
      have HK1 := Lib.hid hk1
      clear hc6 hf6 HC5 HF5 HR5 HN5 hM hnx hd hk1 hk7
      go_wp2_with fail
      rw [HK1.out]
      exact ⟨⟨k + 1, ow6, L6, rfl, HLt.out, HC6.out, HF6.out⟩, by have := HLt.out; simp [intOf]; omega⟩
    · obtain rfl : k = n := by have := HK.out; omega
      have hge : ¬ ((k : Int) < (k : Int)) := by omega
      have k15 := HH.out.2.1
      have k255 := HH.out.2.2
      have k7 := HH.out.1
      go_wp2_with fail
      clear hge hlt
      refine (lawNumberO_any last wr (by omega)).mono ?_
      rintro e w5 ⟨rfl, ho5, hb5⟩
      have HO5 := Lib.hid ho5
      have HB5 := Lib.hid hb5
      clear ho5 hb5
      go_wp2_with fail
      refine (lawNumber_any code w5 (by omega)).mono ?_
      rintro e w6 ⟨rfl, hr6, hb6⟩
      have HO6 := Lib.hid (HO5.out.below hb6 fun g e => (HO5.out.lt e).1)
      have HR6 := Lib.hid hr6
      have HB6 := Lib.hid (HB5.out.trans (hb6.mono HB5.out.size))
      clear hr6 hb6 HO5 HB5 k15 k255 k7
      have h8 : 4 + 4 ≤ 140737488355328 := by decide
      have HOs := Lib.hid HB6.out.size
      go_wp2_with (first
        | (at_builtin
           refine wpList_app_any _ byteP rfl (.tmp 64) (.tmp 66) rfl wr.heap.size _ 4 (be last 4) rfl HO6.out _ (some ⟨w5.heap.size, 0, none⟩) 4 4 (be code 4) rfl HR6.out h8 HOs.out ?_
           intro A7 c7 w7 ho7 hg7 _ _ _
           have HO7 := Lib.hid ho7
           have HB7 := Lib.hid (HB6.out.grown hg7 HB6.out.size (fun g e => by have e : some wr.heap.size = some g := e; injection e with e; omega))
           clear ho7 hg7)
        | fail)
      refine (lawFrame_any A7 (4 + 4) c7 7 0 0 w7.heap.size (be last 4 ++ be code 4) w7 HO7.out.rd (Nat.le_refl _) (by decide) (by decide) (by decide) (by decide)).mono ?_
      rintro e w8 ⟨A8, c8, rfl, ho8, hb8⟩
      have HB8 := Lib.hid (HB7.out.trans (hb8.mono HB7.out.size))
      have HO8 := Lib.hid (ho8.base HB7.out.size)
      have HC8 := Lib.hid (HCr.out.below HB8.out)
      have HF8 := Lib.hid (HFr.out.trans (Fr.below HB8.out owr))
      clear ho8 hb8 HO6 HR6 HB6 HO7 HB7 HOs
      have hM := (clM_eq k).1
      go_wp2_with fail
      refine (feed_any w8 owr b _ Lr _ 1 A8 _ c8 _ (HE2.out.fr HF8.out) HC8.out HO8.out.rd (HO8.out.tagged HCr.out.new) (by rw [hM]; rfl) (by rw [hM]; show 0 + (9 + (4 + 4)) ≤ _; decide) (runs_away k last code (by have := HH.out.1; omega) (by have := HH.out.2.1; omega) (by have := HH.out.2.2; omega))).mono ?_
      rintro e w9 ⟨M9, A9, c9, ow9, L9, rfl, rfl, hle9, hc9, hf9, hrs9, hno9, _⟩
      rw [away_evs] at hrs9 hno9 ⊢
      have HC9 := Lib.hid hc9
      have HF9 := Lib.hid (HF8.out.trans hf9)
      have HR9 := Lib.hid hrs9
      have HLe := Lib.hid (wantE_len last code k)
      generalize hwl : (wantE last code k).length = wl at *
      have HWl := Lib.hid hwl
      clear hle9 hc9 hf9 hrs9 hno9 HC8 HF8 HO8 HB8 HCr HFr hM hwl
      have HX := Lib.hid ((Cm.Ew.lit_any (k := 7) evC 40 (fun _ => rfl) w9 [({ kind := 6, last := last, code := code } : EvV)] (by simp)))
      rw [show (Cm.flat evC [({ kind := 6, last := last, code := code } : EvV)]).toArray = #[.int .i64 6, .int .i64 0, .int .i64 (code : Nat), .int .i64 (last : Nat), .bool false, .slice none 0 0, .slice none 0 0] from rfl] at HX
      have HB10 := Lib.hid ((Below.refl w9.heap.size w9).alloc (Nat.le_refl _) (.cells #[.int .i64 6, .int .i64 0, .int .i64 (code : Nat), .int .i64 (last : Nat), .bool false, .slice none 0 0, .slice none 0 0] 40))
      go_upto_region 19 with fail
      generalize w9.alloc (.cells #[.int .i64 6, .int .i64 0, .int .i64 (code : Nat), .int .i64 (last : Nat), .bool false, .slice none 0 0, .slice none 0 0] 40) = W10 at *
      go_loopw [14, 15, 16] (fun wv lv iv wr => Hid (WaR last code k w9 wv lv iv wr)) (fun _ _ iv _ => k - (intOf iv).toNat)
      case atStart => exact ⟨0, 1, some ⟨w9.heap.size, 0, none⟩, rfl, rfl, rfl, Nat.zero_le _, HX.out, HB10.out⟩
      case round =>
        obtain ⟨j, cw, Aw, rfl, rfl, rfl, hjk, hew, hbw⟩ := hrel
        have HEw := Lib.hid hew
        have HBw := Lib.hid hbw
        have HJ := Lib.hid hjk
        clear hew hbw hjk
        by_cases hlt : j < k
        · have hltI : (j : Int) < (k : Int) := by omega
          have hj7 : j < 7 := by have := HH.out.1; omega
          have HLt := Lib.hid hlt
          obtain ⟨d, hd⟩ : ∃ d : Int, ((2 * j + 1 : Nat) : Int) = d := ⟨_, rfl⟩
          obtain ⟨d2, hd2⟩ : ∃ d : Int, wrap64 (2 * (j : Int)) = d := ⟨_, rfl⟩
          have hd3 : wrap64 (d2 + 1) = d := by rw [← hd, ← hd2]; unfold wrap64; omega
          have hj1 : wrap64 ((j : Int) + 1) = ((j + 1 : Nat) : Int) := by unfold wrap64; omega
          have HJ1 := Lib.hid hj1
          have HD := Lib.hid hd
          by_cases hgt : last < 2 * j + 1
          · have hc : ((last : Int) < d) = True := by simp; omega
            obtain ⟨e1, e2⟩ := wantE_yes (code := code) hgt
            have HW1 := Lib.hid (show _ ∧ _ from ⟨e1, e2⟩)
            have HLw := Lib.hid (wantE_len last code j)
            have HX9 := Lib.hid ((Cm.Ew.lit_any (k := 7) evC 40 (fun _ => rfl) wr [({ kind := 4, stream := 2 * j + 1, code := 7 } : EvV)] (by simp)).rs (fun _ => rfl) (by decide))
            rw [show (Cm.flat evC [({ kind := 4, stream := 2 * j + 1, code := 7 } : EvV)]).toArray = #[.int .i64 4, .int .i64 ((2 * j + 1 : Nat) : Int), .int .i64 7, .int .i64 0, .bool false, .slice none 0 0, .slice none 0 0] from rfl, hd] at HX9
            have HEx := Lib.hid (HEw.out.grown (show wr.grownBy (wr.alloc (.cells #[.int .i64 4, .int .i64 d, .int .i64 7, .int .i64 0, .bool false, .slice none 0 0, .slice none 0 0] 40)) none from ⟨rfl, rfl, rfl, by simp, fun k hk _ => Below.heap_alloc wr _ k hk⟩) (Cm.own_or _))
            have HBx := Lib.hid (HBw.out.alloc HBw.out.size (.cells #[.int .i64 4, .int .i64 d, .int .i64 7, .int .i64 0, .bool false, .slice none 0 0, .slice none 0 0] 40))
            have HLn := Lib.hid (show (wantE last code j).length + 1 ≤ 1000000 by have := HLw.out; omega)
            clear hlt hd hj1 hgt e1 e2 hj7
            generalize hq : (wantE last code j).length = q at *
            have HQ := Lib.hid hq
            clear hq
            go_wp2_with (first
              | (at_builtin
                 refine Cm.wpList_app_e elEv _ rfl (.tmp 84) (.tmp 89) rfl w9.heap.size (.slice Aw q cw) (wantE last code j) rfl HEx.out _ (some ⟨wr.heap.size, 0, none⟩) 1 1 _ rfl HX9.out (by rw [HQ.out]; exact HLn.out) HBx.out.size ?_
                 rw [HQ.out]
                 intro A11 c11 w11 ho11 hg11 _
                 have HO11 := Lib.hid ho11
                 have HB11 := Lib.hid (HBx.out.grown hg11 HBx.out.size (fun g e => (HEx.out.lt g e).1))
                 clear ho11 hg11)
              | fail)
            rw [HJ1.out]
            refine ⟨⟨j + 1, c11, A11, ?_, ?_, rfl, HLt.out, ?_, HB11.out⟩, by have := HLt.out; simp [intOf]; omega⟩
            · rw [HW1.out.1, List.length_append, HQ.out]; rfl
            · rw [HW1.out.2]
            · rw [HW1.out.1, List.length_append, HQ.out]; exact HO11.out
          · have hc : ((last : Int) < d) = False := by simp; omega
            obtain ⟨e1, e2⟩ := wantE_no (code := code) hgt
            have HW1 := Lib.hid (show _ ∧ _ from ⟨e1, e2⟩)
            have hl1 := leftN_le last j
            have hl2 : wrap64 ((leftN last j : Int) + 1) = ((leftN last j + 1 : Nat) : Int) := by unfold wrap64; omega
            have HL2 := Lib.hid hl2
            clear hlt hd hj1 hgt e1 e2 hj7 hl1 hl2
            generalize hq : (wantE last code j).length = q at *
            have HQ := Lib.hid hq
            clear hq
            go_wp2_with fail
            rw [HJ1.out, HL2.out]
            refine ⟨⟨j + 1, cw, Aw, ?_, ?_, rfl, HLt.out, ?_, HBw.out⟩, by have := HLt.out; simp [intOf]; omega⟩
            · rw [HW1.out.1, HQ.out]
            · rw [HW1.out.2]
            · rw [HW1.out.1, HQ.out]; exact HEw.out
        · obtain rfl : j = k := by have := HJ.out; omega
          have hge : ¬ ((j : Int) < (j : Int)) := by omega
          clear hlt
          have HC10 := Lib.hid (HC9.out.below HBw.out)
          have HF10 := Lib.hid (HF9.out.trans (Fr.below HBw.out ow9))
          have HG10 := Lib.hid (HG2.out.fr HE2.out HF10.out)
          have HF := away_facts j last code
          have HFc := Lib.hid HF
          go_wp2_with fail
          clear hge
          refine (post_any wr).mono ?_
          rintro e w11 ⟨rfl, _, hb11⟩
          have HC11 := Lib.hid (HC10.out.below hb11)
          have HF11 := Lib.hid (HF10.out.trans (Fr.below hb11 ow9))
          have HG11 := Lib.hid (HG2.out.fr HE2.out HF11.out)
          have HBw2 := Lib.hid (HBw.out.trans (hb11.mono HBw.out.size))
          have HEw2 := Lib.hid ((HEw.out.rs (fun _ => rfl) (by decide)).below hb11)
          clear hb11 HC10 HF10 HG10 HBw HEw HF
          go_wp2_with fail
          refine (open_gone HC11.out HFc.out.1 HFc.out.2.1 (.inl HFc.out.2.2.1) HG11.out _ _).mono ?_
          intro e w12 h12
          obtain ⟨rfl, hc12, hg12, hf12⟩ := says_cn h12 HC11.out HG11.out
          obtain ⟨_, m12, hw12⟩ := h12
          have HC12 := Lib.hid hc12
          have HG12 := Lib.hid hg12
          have HF12 := Lib.hid (HF11.out.trans hf12)
          have HB12 := Lib.hid (show Below w9.heap.size w9 w12 from hw12 ▸ below_drewN HBw2.out m12)
          have HEw3 := Lib.hid (show Cm.RS evC 7 w12 wr.heap.size Aw (wantE last code j).length (wantE last code j) from hw12 ▸ HEw2.out.keep (Nat.le_refl _) fun _ _ _ _ => rfl)
          clear hc12 hg12 hf12 hw12 HC11 HF11 HG11 HBw2 HEw2
          go_wp2_with fail
          refine (dead_any w12 ow9 b _ L9 HC12.out).mono ?_
          rintro e w13 ⟨rfl, m13, hw13⟩
          rw [show ((({ awayM (clM j) last code with evs := [] } : Cv).code : Nat) : Int) = 0 from by rw [show ({ awayM (clM j) last code with evs := [] } : Cv).code = (awayM (clM j) last code).code from rfl, HFc.out.2.2.2.1]; rfl, show ({ awayM (clM j) last code with evs := [] } : Cv).dead = false from HFc.out.1]
          have HC13 := Lib.hid (show CN w13 ow9 b _ L9 from hw13 ▸ HC12.out.drewN m13)
          have HF13 := Lib.hid (show Fr w2 ow2 w13 ow9 from hw13 ▸ (HF12.out.trans (Fr.drewN w12 ow9 m13)))
          have HB13 := Lib.hid (show Below w9.heap.size w9 w13 from hw13 ▸ below_drewN HB12.out m13)
          have HEw4 := Lib.hid (show Cm.RS evC 7 w13 wr.heap.size Aw (wantE last code j).length (wantE last code j) from hw13 ▸ HEw3.out.keep (Nat.le_refl _) fun _ _ _ _ => rfl)
          clear hw13 HC12 HF12 HG12 HB12 HEw3
          have hr9 := HR9.out.below HB13.out
          rw [← HWl.out] at hr9 ⊢
          have HSa := Lib.hid (sameEv_any w13 A9 Aw (wantE last code j).length c9 cw w9.heap.size wr.heap.size (wantE last code j) hr9 HEw4.out (wantE_plain last code j) (by have := wantE_len last code j; have := HH.out.1; omega))
          clear hr9
          go_wp2_with fail
          refine HSa.out.mono ?_
          rintro e w14 ⟨rfl, hb14⟩
          have HC14 := Lib.hid (HC13.out.below hb14)
          have HF14 := Lib.hid (HF13.out.trans (Fr.below hb14 ow9))
          clear hb14 HC13 HF13 HB13 HEw4
          go_wp2_with fail
          refine (streams_any w14 ow9 b _ L9 HC14.out HFc.out.2.2.2.2 (by show (awayM (clM j) last code).strs.length ≤ _; rw [away_left]; have := leftN_le last j; have := HH.out.1; omega)).mono ?_
          rintro e w15 ⟨A15, c15, rfl, _, hb15⟩
          rw [show ({ awayM (clM j) last code with evs := [] } : Cv).strs.length = leftN last j from away_left j last code]
          have HF15 := Lib.hid (HF14.out.trans (Fr.below hb15 ow9))
          have g0 := HG2.out.fr HE2.out HF15.out
          unfold GoneAt at g0
          clear hb15 HC14 HF14
          go_wp2
          go_ret
          exact ⟨rfl, HF15.out.toBelow HB2.out HO2.out⟩
/-- The walk of ConnGoAway. -/
theorem connGoAway_any (w : World) (hW : EnvW w) (a : Addr) (hg : GoneAt w a) (nv lv cv : Int) : Calls Tryz.prog 6 #[.int .i64 nv, .int .i64 lv, .int .i64 cv] w fun e w' => e = .returned (.bool true) ∧ Below w.heap.size w w' := by
  obtain ⟨n, hn, e1⟩ := and_mask nv 7 (by decide)
  obtain ⟨l, hl, e2⟩ := and_mask lv 15 (by decide)
  obtain ⟨c, hc, e3⟩ := and_mask cv 255 (by decide)
  exact goAway_small w hW a hg nv lv cv n l c e1 e2 e3 hn hl hc
end Go.Proofs.YtdkfbkjmhgbppaaGreatDoor
