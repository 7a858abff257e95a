/-
  The walk of ConnStreams.
-/
import Derived.Test.YtdkfbkjmhgbppaaGreatDoorKd
import Derived.Test.YtdkfbkjmhgbppaaGreatDoorS1
import Derived.Test.YtdkfbkjmhgbppaaGreatDoorJz
set_option linter.unusedSimpArgs false
set_option linter.unusedVariables false
namespace Go.Proofs.YtdkfbkjmhgbppaaGreatDoor
open Go.RowKit Go.Own Go.Own.Im Go.Own.Cx Go.Own.Fr Go.Own.Hd
/-- Between two streams that come. -/
def StR (lim n b : Nat) (w2 : World) (ow2 : Nat → Tg) (ov iv : Value) (wr : World) : Prop :=
  ∃ (k c : Nat) (A : Option Addr) (ow' : Nat → Tg) (L' : Lay), ov = .slice A (refB lim (k - lim)).length c ∧ iv = .int .i64 (k : Nat) ∧ k ≤ n ∧ Oz wr (fun g => w2.heap.size ≤ g ∧ ow' g = .no) (.slice A (refB lim (k - lim)).length c) (refB lim (k - lim)) ∧ CN wr ow' b (stM lim k) L' ∧ Fr w2 ow2 wr ow'
theorem oz_fed {w w' : World} {ow ow' : Nat → Tg} {B : Nat} {v : Value} {l : List UInt8} (h : Oz w (fun g => B ≤ g ∧ ow g = .no) v l) (hf : Fr w ow w' ow') : Oz w' (fun g => B ≤ g ∧ ow' g = .no) v l :=
  h.turn (fun g hlt ho => ⟨hf.keep g hlt ho.2, ho.1, hf.no g hlt ho.2⟩) hf.size
set_option maxHeartbeats 16000000 in
set_option maxRecDepth 100000 in
theorem streams_small (w : World) (hW : EnvW w) (lv nv : Int) (lim n : Nat) (hl : bits .and .i64 lv 7 = (lim : Int)) (hn : bits .and .i64 nv 15 = (n : Int)) (hl7 : lim ≤ 7) (hn15 : n ≤ 15) :
    Calls Tryz.prog 4 #[.int .i64 lv, .int .i64 nv] w fun e w' => e = .returned (.bool true) ∧ Below w.heap.size w w' := by
  have HW := Lib.hid hW
  have HF := Lib.hid (first_any w hW)
  have HH := Lib.hid (show _ ∧ _ from ⟨hl7, hn15⟩)
  clear hW hl7 hn15
  go_enter Tryz.func4, Tryz.ntmps4
  go_wp2_with fail
  refine HF.out.mono ?_
  rintro e w1 ⟨rfl, hb1⟩
  have HB1 := Lib.hid hb1
  have HW1 := Lib.hid (HW.out.below hb1)
  clear hb1
  go_wp2_with fail
  refine (new2_any w1 65535 lim (by decide) (by have := HH.out.1; omega)).mono ?_
  rintro e w2 ⟨b, ow2, L2, rfl, hc2, hb2, ho2⟩
  have HB2 := Lib.hid (HB1.out.trans (hb2.mono HB1.out.size))
  have HC2 := Lib.hid hc2
  have HO2 := Lib.hid (show ∀ g, g < w.heap.size → ow2 g = .no from fun g hg => ho2 g (Nat.lt_of_lt_of_le hg HB1.out.size))
  have HE2 := Lib.hid (HW1.out.of hb2 ho2)
  clear hb2 hc2 ho2
  go_wp2_with fail
  refine (hello2_any w2).mono ?_
  rintro e w3 ⟨A3, c3, rfl, hz3, hb3⟩
  have HC3 := Lib.hid (HC2.out.below hb3)
  have HF3 := Lib.hid (Fr.below hb3 ow2)
  have HE3 := Lib.hid (HE2.out.fr HF3.out)
  have HZ3 := Lib.hid hz3
  clear hb3 hz3
  go_wp2_with fail
  refine (feed_any w3 ow2 b _ L2 _ 26 A3 _ c3 _ HE3.out HC3.out HZ3.out.rd (HZ3.out.tagged HC2.out.new) rfl (by show 0 + 33 ≤ _; decide) (runs_helloS 2 lim (.inr rfl))).mono ?_
  rintro e w4 ⟨M4, A4, c4, ow4, L4, rfl, rfl, hle4, hc4, hf4, _, _, _⟩
  have HC4 := Lib.hid (show CN w4 ow4 b (gM 2 lim) L4 from hc4)
  have HF4 := Lib.hid (HF3.out.trans hf4)
  clear hle4 hc4 hf4 HC3 HE3 HZ3
  go_wp2_with fail
  refine (output_still w4 ow4 b _ L4 HC4.out List.Pairwise.nil (Nat.zero_le _) (fun s hs => by cases hs) (.inr fun s hs => by cases hs)).mono ?_
  rintro e w5 ⟨A5, c5, ow5, L5, rfl, hle5, hr5, ht5, hc5, hf5⟩
  have HC5 := Lib.hid (show CN w5 ow5 b (stM lim 0) L5 from base_g lim ▸ hc5)
  have HF5 := Lib.hid (HF4.out.trans hf5)
  clear hle5 hr5 ht5 hc5 hf5 HC4 HF4
  go_upto_region 11 with fail
  clear hl hn
  go_loopw [8, 9] (fun ov iv wr => Hid (StR lim n b w2 ow2 ov iv wr)) (fun _ iv _ => n - (intOf iv).toNat)
  case atStart => exact ⟨0, 0, none, ow5, L5, by rw [Nat.zero_sub]; rfl, rfl, Nat.zero_le _, by rw [Nat.zero_sub]; exact Oz.nil _ _, HC5.out, HF5.out⟩
  case round =>
    obtain ⟨k, co, Ao, owr, Lr, rfl, rfl, hkn, hoz, hcr, hfr⟩ := hrel
    have HCr := Lib.hid hcr
    have HFr := Lib.hid hfr
    have HK := Lib.hid hkn
    have HOz := Lib.hid hoz
    clear hcr hfr hkn hoz
    by_cases hlt : k < n
    · have hltI : (k : Int) < (n : Int) := by omega
      have hk15 : k < 15 := by have := HH.out.2; omega
      have HLt := Lib.hid hlt
      obtain ⟨d, hd⟩ : ∃ d : Int, ((2 * k + 1 : Nat) : Int) = d := ⟨_, rfl⟩
      obtain ⟨d2, hd2⟩ : ∃ d : Int, wrap64 (2 * (k : Int)) = d := ⟨_, rfl⟩
      have hd3 : wrap64 (d2 + 1) = d := by rw [← hd, ← hd2]; unfold wrap64; omega
      have hk1 : wrap64 ((k : Int) + 1) = ((k + 1 : Nat) : Int) := by unfold wrap64; omega
      have HK1 := Lib.hid hk1
      have HD := Lib.hid hd
      have HR6 := Lib.hid (rd_b3 wr)
      have HB6 := Lib.hid ((Below.refl wr.heap.size wr).alloc (Nat.le_refl _) (.cells #[.int .u8 131, .int .u8 134, .int .u8 132] 5))
      clear hd hk1
      by_cases hkl : k < lim
      · have hklI : ((k : Int) < (lim : Int)) = True := by simp; omega
        have HKl := Lib.hid hkl
        clear hkl hlt hk15
        go_wp2_with fail
        generalize wr.alloc (.cells #[.int .u8 131, .int .u8 134, .int .u8 132] 5) = W6 at *
        rw [← HD.out]
        have hk7 := HH.out.1
        have hk15 := HH.out.2
        have hkn := HLt.out
        refine (lawFrame_any (some ⟨wr.heap.size, 0, none⟩) 3 3 1 5 (2 * k + 1) W6.heap.size b3 W6 HR6.out (Nat.le_refl _) (by decide) (by decide) (by decide) (by omega)).mono ?_
        rintro e w7 ⟨A7, c7, rfl, ho7, hb7⟩
        have HB7 := Lib.hid (HB6.out.trans (hb7.mono HB6.out.size))
        have HO7 := Lib.hid (ho7.base HB6.out.size)
        have HC7 := Lib.hid (HCr.out.below HB7.out)
        have HF7 := Lib.hid (HFr.out.trans (Fr.below HB7.out owr))
        have HOz7 := Lib.hid (HOz.out.keep (fun g hg _ => HB7.out.block g hg) HB7.out.size)
        clear ho7 hb7
        go_wp2_with fail
        refine (feed_any w7 owr b _ Lr _ 1 A7 _ c7 _ (HE2.out.fr HF7.out) HC7.out HO7.out.rd (HO7.out.tagged HCr.out.new) rfl (by show 0 + (9 + 3) ≤ _; decide) (runsS_open lim k HKl.out (by omega))).mono ?_
        rintro e w8 ⟨M8, A8, c8, ow8, L8, ⟨A, c, rfl⟩, rfl, hle8, hc8, hf8, hrs8, _, _⟩
        rw [show ({ stM lim (k + 1) with evs := [{ kind := 1, stream := 2 * k + 1, fin := true, la := A, lc := c, l := hs3 }] } : Cv).evs.length = 1 from rfl] at hrs8 ⊢
        obtain ⟨ad, _, rfl, _⟩ := hrs8.at2 (j := 0) (by decide)
        have k0 : w8.cell? ad = some (.int .i64 1) := (ev_at hrs8 (j := 0) (x := { kind := 1, stream := 2 * k + 1, fin := true, la := A, lc := c, l := hs3 }) rfl).1
        have HC8 := Lib.hid (show CN w8 ow8 b (stM lim (k + 1)) L8 from hc8)
        have HF8 := Lib.hid (HF7.out.trans hf8)
        have HOz8 := Lib.hid (oz_fed HOz7.out hf8)
        clear hle8 hc8 hf8 hrs8 hk7 hk15 hkn HC7 HF7 HO7 HOz7 HB7
        go_wp2_with fail
        rw [HK1.out]
        have e0 : k + 1 - lim = k - lim := by have := HKl.out; omega
        exact ⟨⟨k + 1, co, Ao, ow8, L8, by rw [e0], rfl, HLt.out, by rw [e0]; exact HOz8.out, HC8.out, HF8.out⟩, by have := HLt.out; simp [intOf]; omega⟩
      · have hklI : ((k : Int) < (lim : Int)) = False := by simp; omega
        have HKl := Lib.hid (show lim ≤ k by omega)
        clear hkl hlt hk15
        go_wp2_with fail
        generalize wr.alloc (.cells #[.int .u8 131, .int .u8 134, .int .u8 132] 5) = W6 at *
        rw [← HD.out]
        have hk7 := HH.out.1
        have hk15 := HH.out.2
        have hkn := HLt.out
        refine (lawFrame_any (some ⟨wr.heap.size, 0, none⟩) 3 3 1 5 (2 * k + 1) W6.heap.size b3 W6 HR6.out (Nat.le_refl _) (by decide) (by decide) (by decide) (by omega)).mono ?_
        rintro e w7 ⟨A7, c7, rfl, ho7, hb7⟩
        have HB7 := Lib.hid (HB6.out.trans (hb7.mono HB6.out.size))
        have HO7 := Lib.hid (ho7.base HB6.out.size)
        have HC7 := Lib.hid (HCr.out.below HB7.out)
        have HF7 := Lib.hid (HFr.out.trans (Fr.below HB7.out owr))
        have HOz7 := Lib.hid (HOz.out.keep (fun g hg _ => HB7.out.block g hg) HB7.out.size)
        clear ho7 hb7
        go_wp2_with fail
        refine (feed_any w7 owr b _ Lr _ 1 A7 _ c7 _ (HE2.out.fr HF7.out) HC7.out HO7.out.rd (HO7.out.tagged HCr.out.new) rfl (by show 0 + (9 + 3) ≤ _; decide) (runsS_many lim k HKl.out (by omega))).mono ?_
        rintro e w8 ⟨M8, A8, c8, ow8, L8, rfl, rfl, hle8, hc8, hf8, _, _, _⟩
        rw [show (stM lim (k + 1)).evs.length = 0 from rfl]
        have HC8 := Lib.hid (show CN w8 ow8 b (stM lim (k + 1)) L8 from hc8)
        have HF8 := Lib.hid (HF7.out.trans hf8)
        have HOz8 := Lib.hid (oz_fed HOz7.out hf8)
        clear hle8 hc8 hf8 hk7 hk15 hkn HC7 HF7 HO7 HOz7 HB7
        go_wp2_with fail
        refine (lawNumber_any 7 w8 (by decide)).mono ?_
        rintro e w9 ⟨rfl, hr9, hb9⟩
        have hlt9 : w8.heap.size < w9.heap.size := by
          obtain ⟨ad2, e2, hlt, hc⟩ := hr9.2 (by decide)
          injection e2 with e2
          subst e2
          exact (World.block_lt_of_cell? w9 _ (hc 0 (by decide)))
        have HR9 := Lib.hid (hr9.more hlt9)
        have HB9 := Lib.hid hb9
        clear hr9 hb9 hlt9
        go_wp2_with fail
        rw [← HD.out]
        have hk15 := HH.out.2
        have hkn := HLt.out
        refine (lawFrame_any (some ⟨w8.heap.size, 0, none⟩) 4 4 3 0 (2 * k + 1) w9.heap.size (be 7 4) w9 HR9.out (Nat.le_refl _) (by decide) (by decide) (by decide) (by omega)).mono ?_
        rintro e w10 ⟨A10, c10, rfl, ho10, hb10⟩
        have HB10 := Lib.hid (HB9.out.trans (hb10.mono HB9.out.size))
        have HR10 := Lib.hid ho10.rd
        have HC10 := Lib.hid (HC8.out.below HB10.out)
        have HF10 := Lib.hid (HF8.out.trans (Fr.below HB10.out ow8))
        have HOz10 := Lib.hid (HOz8.out.keep (fun g hg _ => HB10.out.block g hg) HB10.out.size)
        have hll := refB_len lim (k - lim)
        have HLn := Lib.hid (show (refB lim (k - lim)).length + (9 + 4) ≤ 140737488355328 by omega)
        clear ho10 hb10 HR9 HB9 HB10 hk15 hkn hll HC8 HF8 HOz8
        go_wp2_with (first
          | (at_builtin
             refine wpList_app_z byteP _ rfl (.tmp 62) (.tmp 67) rfl (fun g => w2.heap.size ≤ g ∧ ow8 g = .no) (.slice Ao (refB lim (k - lim)).length co) (refB lim (k - lim)) rfl HOz10.out w10.heap.size A10 (9 + 4) c10 (frameB 3 0 (2 * k + 1) (be 7 4)) rfl HR10.out HLn.out ?_
             intro A11 c11 w11 row11 hO11 hg11 hr11
             have HO11 := Lib.hid (hO11.owned (own' := fun g => w2.heap.size ≤ g ∧ ow8 g = .no) (fun g _ h => by rcases h with h | ⟨_, h⟩; exact h; rw [h]; exact ⟨HF10.out.size, HC10.out.new _ (Nat.le_refl _)⟩))
             have HC11 := Lib.hid (HC10.out.aside hg11 (fun g e => (hr11 g e).1.2))
             have HF11 := Lib.hid (Fr.grownNew HF10.out hg11 (fun g e => (hr11 g e).1.1))
             clear hO11 hg11 hr11)
          | fail)
        rw [HK1.out]
        have hkl2 := HKl.out
        have e0 : k + 1 - lim = (k - lim) + 1 := by omega
        have e1 : refB lim (k + 1 - lim) = refB lim (k - lim) ++ frameB 3 0 (2 * k + 1) (be 7 4) := by rw [e0, refB, show lim + (k - lim) = k by omega]
        have e2 : (refB lim (k + 1 - lim)).length = (refB lim (k - lim)).length + (9 + 4) := by rw [e1, List.length_append, frameB_len, be_len]
        exact ⟨⟨k + 1, c11, A11, ow8, L8, by rw [e2], rfl, HLt.out, by rw [e2, e1]; exact HO11.out, HC11.out, HF11.out⟩, by have := HLt.out; simp [intOf]; omega⟩
    · obtain rfl : k = n := by have := HK.out; omega
      have hge : ¬ ((k : Int) < (k : Int)) := by omega
      clear hlt
      go_wp2_with fail
      clear hge
      refine (output_still wr owr b _ Lr HCr.out (stM_sorted lim k) (by rw [stM_len]; have := HH.out.1; omega) (fun s hs => by have := (q_still lim k s hs).2; have := HH.out.2; omega) (.inr fun s hs => (q_still lim k s hs).1)).mono ?_
      rintro e w6 ⟨A6, c6, ow6, L6, rfl, hle6, hr6, ht6, hc6, hf6⟩
      rw [show (stM lim k).out = refB lim (k - lim) from rfl] at hr6 ⊢
      have HC6 := Lib.hid (show CN w6 ow6 b (qM lim k) L6 from hc6)
      have HF6 := Lib.hid (HFr.out.trans hf6)
      have HR6 := Lib.hid hr6
      have HRo := Lib.hid (oz_fed HOz.out hf6).rd
      generalize hq : (refB lim (k - lim)).length = q at *
      clear hle6 hr6 ht6 hc6 hf6 HCr HFr HOz hq
      go_wp2_with fail
      refine (sameBytes_any A6 Ao q q c6 co _ _ w6 _ _ HR6.out HRo.out).mono ?_
      rintro e w7 ⟨rfl, hw⟩
      subst w7
      rw [show decide (refB lim (k - lim) = refB lim (k - lim)) = true from decide_eq_true rfl]
      clear HR6 HRo
      go_wp2_with fail
      refine (streams_any w6 ow6 b _ L6 HC6.out (stM_sorted lim k) (by show (stM lim k).strs.length ≤ _; rw [stM_len]; have := HH.out.1; omega)).mono ?_
      rintro e w7 ⟨A7, c7, rfl, _, hb7⟩
      rw [show (qM lim k).strs.length = min k lim from stM_len lim k]
      have HC7 := Lib.hid (HC6.out.below hb7)
      have HF7 := Lib.hid (HF6.out.trans (Fr.below hb7 ow6))
      clear hb7 HC6 HF6
      have hmin : lim = 0 ∨ (0 < lim ∧ k < lim) ∨ (0 < lim ∧ lim ≤ k) := by omega
      rcases hmin with hc | ⟨hc1, hc2⟩ | ⟨hc1, hc2⟩
      · subst hc
        rw [show min k 0 = 0 by omega]
        have j1 : ((0 : Int) ≤ (k : Int)) = True := by simp
        go_wp2
        go_ret
        exact ⟨rfl, HF7.out.toBelow HB2.out HO2.out⟩
      · rw [show min k lim = k by omega]
        have j1 : ((lim : Int) ≤ (k : Int)) = False := by simp; omega
        have j2 : ((k : Int) < (lim : Int)) = True := by simp; omega
        have j3 : ((lim : Int) == 0) = false := by simp; omega
        have j4 : ((lim : Int) = 0) = False := by simp; omega
        have jm : min (lim : Int) (k : Int) = (k : Int) := by omega
        clear hc1 hc2
        go_wp2
        go_ret
        exact ⟨rfl, HF7.out.toBelow HB2.out HO2.out⟩
      · rw [show min k lim = lim by omega]
        have j1 : ((lim : Int) ≤ (k : Int)) = True := by simp; omega
        have j2 : ((k : Int) < (lim : Int)) = False := by simp; omega
        have j3 : ((lim : Int) == 0) = false := by simp; omega
        have j4 : ((lim : Int) = 0) = False := by simp; omega
        have HL := Lib.hid (show _ ∧ _ from ⟨hc1, hc2⟩)
        have jm : min (lim : Int) (k : Int) = (lim : Int) := by omega
        clear hc1 hc2
        have HRh := Lib.hid ((Cm.Ew.lit_any (k := 3) hdrC 47 (fun _ => rfl) w7 [hSt] (by simp)).rs (fun _ => rfl) (by decide))
        rw [show (Cm.flat hdrC [hSt]).toArray = #[.string ⟨#[58, 115, 116, 97, 116, 117, 115]⟩, .string ⟨#[50, 48, 48]⟩, .bool false] from rfl] at HRh
        have HBh := Lib.hid ((Below.refl w7.heap.size w7).alloc (Nat.le_refl _) (.cells #[.string ⟨#[58, 115, 116, 97, 116, 117, 115]⟩, .string ⟨#[50, 48, 48]⟩, .bool false] 47))
        go_wp2_with fail
        clear j1 j2 j3 j4 jm
        generalize w7.alloc (.cells #[.string ⟨#[58, 115, 116, 97, 116, 117, 115]⟩, .string ⟨#[50, 48, 48]⟩, .bool false] 47) = W8 at *
        have HF8 := Lib.hid (HF7.out.trans (Fr.below HBh.out ow6))
        have HC8 := Lib.hid (HC7.out.below HBh.out)
        have hno := HC7.out.new w7.heap.size (Nat.le_refl _)
        refine (answer_any W8 ow6 b (qM lim k) L6 (oS 0) 1 (some ⟨w7.heap.size, 0, none⟩) 1 [hSt] [8] true [] 200 (HE2.out.fr HF8.out) HC8.out rfl rfl (q_first lim k HL.out.1 HL.out.2) wf1 rfl rfl (by decide) (by decide) ((stM_sorted lim k).imp fun h => Nat.ne_of_lt h) (Nat.zero_le _) HRh.out (fun ad e => by injection e with e; rw [← e]; exact hno) ixSt hSt_nv (by decide) (by decide) hSt_sz (by decide) hSt_szs hSt_ans (by decide)).mono ?_
        intro e w9 hp
        obtain rfl := hp.ret
        obtain ⟨ow9, L9, _, hc9, hf9⟩ := hp
        have HC9 := Lib.hid hc9
        have HF9 := Lib.hid (HF8.out.trans hf9)
        clear hc9 hf9 HC8 HF8 hno HRh HBh HC7 HF7
        go_wp2_with fail
        have hk15 := HH.out.2
        refine (output_still w9 ow9 b _ L9 HC9.out (by rw [answ_strs]; exact l_sorted lim k) (by rw [answ_strs]; have := l_len lim k HL.out.1 HL.out.2; have := HH.out.1; omega) (fun s hs => by rw [answ_strs] at hs; have := (l_mem lim k s hs).2; omega) (.inr fun s hs => by rw [answ_strs] at hs; exact (l_mem lim k s hs).1)).mono ?_
        rintro e w10 ⟨A10, c10, ow10, L10, rfl, hle10, hr10, ht10, hc10, hf10⟩
        rw [answ_l] at hc10
        have HC10 := Lib.hid hc10
        have HF10 := Lib.hid (HF9.out.trans hf10)
        clear hle10 hr10 ht10 hc10 hf10 HC9 HF9
        obtain ⟨d, hd⟩ : ∃ d : Int, ((2 * k + 1 : Nat) : Int) = d := ⟨_, rfl⟩
        obtain ⟨d2, hd2⟩ : ∃ d : Int, wrap64 (2 * (k : Int)) = d := ⟨_, rfl⟩
        have hd3 : wrap64 (d2 + 1) = d := by rw [← hd, ← hd2]; unfold wrap64; omega
        have HD := Lib.hid hd
        have HR11 := Lib.hid (rd_b3 w10)
        have HB11 := Lib.hid ((Below.refl w10.heap.size w10).alloc (Nat.le_refl _) (.cells #[.int .u8 131, .int .u8 134, .int .u8 132] 5))
        clear hd hk15
        go_wp2_with fail
        generalize w10.alloc (.cells #[.int .u8 131, .int .u8 134, .int .u8 132] 5) = W11 at *
        rw [← HD.out]
        have hk15 := HH.out.2
        refine (lawFrame_any (some ⟨w10.heap.size, 0, none⟩) 3 3 1 5 (2 * k + 1) W11.heap.size b3 W11 HR11.out (Nat.le_refl _) (by decide) (by decide) (by decide) (by omega)).mono ?_
        rintro e w12 ⟨A12, c12, rfl, ho12, hb12⟩
        have HB12 := Lib.hid (HB11.out.trans (hb12.mono HB11.out.size))
        have HO12 := Lib.hid (ho12.base HB11.out.size)
        have HC12 := Lib.hid (HC10.out.below HB12.out)
        have HF12 := Lib.hid (HF10.out.trans (Fr.below HB12.out ow10))
        clear ho12 hb12 hk15
        go_wp2_with fail
        refine (feed_any w12 ow10 b _ L10 _ 1 A12 _ c12 _ (HE2.out.fr HF12.out) HC12.out HO12.out.rd (HO12.out.tagged HC10.out.new) rfl (by show 0 + (9 + 3) ≤ _; decide) (runsS_again lim k HL.out.1 HL.out.2 (by have := HH.out.2; omega))).mono ?_
        rintro e w13 ⟨M13, A13, c13, ow13, L13, ⟨A, c, rfl⟩, rfl, hle13, hc13, hf13, hrs13, _, _⟩
        rw [show (opnM (lM lim k) (2 * k + 1) true hs3 A c).evs.length = 1 from rfl] at hrs13 ⊢
        obtain ⟨ad, _, rfl, _⟩ := hrs13.at2 (j := 0) (by decide)
        have kk := ev_at hrs13 (j := 0) (x := { kind := 1, stream := 2 * k + 1, fin := true, la := A, lc := c, l := hs3 }) rfl
        have k0 : w13.cell? ad = some (.int .i64 1) := kk.1
        have k1 : w13.cell? ⟨ad.block, ad.off + 1, none⟩ = some (.int .i64 d) := by
          have h := kk.2.1
          rw [show ad.add (0 * 7) = ad by cases ad; rfl, HD.out] at h
          exact h
        have HF13 := Lib.hid (HF12.out.trans hf13)
        clear kk hle13 hc13 hf13 hrs13 HC12 HF12 HO12 HB12
        go_wp2
        go_ret
        exact ⟨rfl, HF13.out.toBelow HB2.out HO2.out⟩
/-- The walk of ConnStreams. -/
theorem connStreams_any (w : World) (hW : EnvW w) (lv nv : Int) : Calls Tryz.prog 4 #[.int .i64 lv, .int .i64 nv] w fun e w' => e = .returned (.bool true) ∧ Below w.heap.size w w' := by
  obtain ⟨l, hl, e1⟩ := and_mask lv 7 (by decide)
  obtain ⟨n, hn, e2⟩ := and_mask nv 15 (by decide)
  exact streams_small w hW lv nv l n e1 e2 hl hn
end Go.Proofs.YtdkfbkjmhgbppaaGreatDoor
