/-
  The walk of ConnWindow.
-/
import Derived.Test.YtkpppjhbmnfmkaaGreatDoorKg
import Derived.Test.YtkpppjhbmnfmkaaGreatDoorL6
import Derived.Test.YtkpppjhbmnfmkaaGreatDoorJw
import Derived.Test.YtkpppjhbmnfmkaaGreatDoorJz
import Derived.BigQuiet
set_option linter.unusedSimpArgs false
set_option linter.unusedVariables false
namespace Go.Proofs.YtkpppjhbmnfmkaaGreatDoor
open Go.RowKit Go.Own Go.Own.Im Go.Own.Cx Go.Own.Fr Go.Own.Hd
theorem wadd1 (a b c : Nat) (h : a + b = c) (hc : c ≤ 1000000000) : wrap64 ((a : Int) + (b : Int)) = (c : Int) := by unfold wrap64; omega
theorem wsub1 (a b c : Nat) (h : b + c = a) (hc : a ≤ 1000000000) : wrap64 ((a : Int) - (b : Int)) = (c : Int) := by unfold wrap64; omega
theorem min_ite (y n k : Nat) (h : min n (min 65535 y) = k) : (if (65535 : Int) < (if y < n then (y : Int) else (n : Int)) then (65535 : Int) else if y < n then (y : Int) else (n : Int)) = (k : Int) := by
  by_cases h1 : y < n
  · rw [if_pos h1]
    by_cases h2 : (65535 : Int) < (y : Int)
    · rw [if_pos h2]; omega
    · rw [if_neg h2]; omega
  · rw [if_neg h1]
    by_cases h2 : (65535 : Int) < (n : Int)
    · rw [if_pos h2]; omega
    · rw [if_neg h2]; omega
theorem kk_min (x n g k k2 : Nat) (h4 : min n (min 65535 x) = k) (h1 : min (n - k) (min (65535 - k) (x - k + g)) = k2) : min n (min 65535 (x + g)) = k + k2 := by omega
theorem big_false (n : Nat) (h : n ≤ 65535) : ((65535 : Int) < (n : Int)) = False := eq_false (by omega)
theorem int_ne (a b : Nat) (h : a < b) : ((a : Int) == (b : Int)) = false ∧ ((a : Int) = (b : Int)) = False := ⟨beq_eq_false_iff_ne.2 (by omega), eq_false (by omega)⟩
theorem win_facts (x n g k k2 dd xg kk d3 : Nat) (hx : x ≤ 65535) (hn : n ≤ 65535) (hg : g ≤ 65536) (hk : min n (min 65535 x) = k) (hkn : k < n) (hk2 : min (n - k) (min (65535 - k) (x - k + g)) = k2) (hdd : n - k = dd) (hxg : x + g = xg) (hkk : k + k2 = kk) (hd3 : n - k - k2 = d3) :
    wrap64 ((x : Int) + (g : Int)) = (xg : Int) ∧ wrap64 ((kk : Int) - (k : Int)) = (k2 : Int) ∧ wrap64 ((k : Int) + (k2 : Int)) = (kk : Int) ∧ wrap64 ((n : Int) - (k : Int)) = (dd : Int) ∧ wrap64 ((dd : Int) - (k2 : Int)) = (d3 : Int) ∧
    ((decide (k2 = n - k) = true ∧ kk = n ∧ n ≤ xg ∧ dd = k2 ∧ d3 = 0) ∨ (decide (k2 = n - k) = false ∧ kk = xg ∧ xg < n)) := by
  have hmin2 := kk_min x n g k k2 hk hk2
  rw [hxg, hkk] at hmin2
  have hk2n : k2 ≤ n - k := by rw [← hk2]; exact Nat.min_le_left _ _
  have hkkn : kk ≤ n := by rw [← hkk]; clear hk hk2 hmin2; omega
  clear hk hk2
  refine ⟨wadd1 x g xg hxg (by clear hmin2; omega), wsub1 kk k k2 hkk (by clear hmin2; omega), wadd1 k k2 kk hkk (by clear hmin2; omega), wsub1 n k dd (by clear hmin2; omega) (by clear hmin2; omega), wsub1 dd k2 d3 (by clear hmin2; omega) (by clear hmin2; omega), ?_⟩
  by_cases h : k2 = n - k
  · exact .inl ⟨decide_eq_true h, by clear hmin2; omega, by omega, by clear hmin2; omega, by clear hmin2; omega⟩
  · have h2 : ¬ kk = n := by clear hmin2; omega
    exact .inr ⟨decide_eq_false h, by omega, by omega⟩
theorem at_one1 {M : Cv} {s : Sv} (h : M.strs = [s]) (hid : s.id = 1) : strAt M 1 = some s := by
  unfold strAt
  rw [h]
  simp [hid]
theorem sG_id (x n k g k2 : Nat) : (pS (sF x n k g) k2).id = 1 := rfl
theorem wf1w : (Lit.int .i64 (1 : Int)).wf = true := by decide
theorem num_rdw (n : Nat) (w : World) (hn : n < 4294967296) :
    Calls Tryz.prog 17 #[.int .i64 (n : Nat)] w fun e w' => e = .returned (.slice (some ⟨w.heap.size, 0, none⟩) 4 4) ∧ Rd w' w'.heap.size (some ⟨w.heap.size, 0, none⟩) 4 (be n 4) ∧ Below w.heap.size w w' := by
  refine (lawNumber_any n w hn).mono ?_
  rintro e w9 ⟨rfl, hr9, hb9⟩
  have hlt9 : w.heap.size < w9.heap.size := by
    obtain ⟨ad2, e2, hlt, hc⟩ := hr9.2 (by decide)
    injection e2 with e2
    subst e2
    exact (World.block_lt_of_cell? w9 _ (hc 0 (by decide)))
  exact ⟨rfl, hr9.more hlt9, hb9⟩
theorem wwait (w : World) (ow : Nat → Tg) (b : Nat) (M : Cv) (s : Sv) (L : Lay) (n : Nat) (h : CN w ow b M L) (hs : strAt M 1 = some s) (hn : s.waits.length = n) :
    Calls Tryz.prog 33 #[.pointer (some ⟨b, 0, none⟩), .int .i64 1] w fun e w' => e = .returned (.int .i64 (n : Nat)) ∧ w' = w := by
  refine (waiting_any w ow b M L 1 h wf1w).mono ?_
  rintro e w' ⟨rfl, hw⟩
  refine ⟨?_, hw⟩
  rw [hs]
  show Ending.returned (.int .i64 (s.waits.length : Nat)) = _
  rw [hn]
set_option maxHeartbeats 16000000 in
set_option maxRecDepth 100000 in
theorem window_small (w : World) (hW : EnvW w) (wv nv gv : Int) (x n q g : Nat) (hx : bits .and .i64 wv 65535 = (x : Int)) (hx2 : x ≤ 65535) (hn : bits .and .i64 nv 65535 = (n : Int)) (hn2 : n ≤ 65535) (hq : bits .and .i64 gv 65535 = (q : Int)) (hq2 : q ≤ 65535) (hg : q + 1 = g) :
    Calls Tryz.prog 7 #[.int .i64 wv, .int .i64 nv, .int .i64 gv] w fun e w' => e = .returned (.bool true) ∧ Below w.heap.size w w' := by
  have HF := Lib.hid (first_any w hW)
  have HW := Lib.hid hW
  have hwg : wrap64 ((q : Int) + 1) = (g : Int) := by unfold wrap64; omega
  have HH := Lib.hid (show _ ∧ _ ∧ _ ∧ _ from ⟨hx2, hn2, (show 1 ≤ g by omega), (show g ≤ 65536 by omega)⟩)
  have HMk := Lib.hid (mk_zeros2 (P := Tryz.prog) byteP n (by omega)).2
  have hmk := (mk_zeros2 (P := Tryz.prog) byteP n (by omega)).1
  clear hW hx2 hn2 hq2 hg
  go_enter Tryz.func7, Tryz.ntmps7
  go_wp2_with fail
  refine HF.out.mono ?_
  rintro e w1 ⟨rfl, hb1⟩
  have HB1 := Lib.hid hb1
  have HW1 := Lib.hid (HW.out.below hb1)
  clear hb1
  go_wp2_with fail
  refine (new1_any w1 65535 0 (by decide) (by decide)).mono ?_
  rintro e w2 ⟨b, ow2, L2, rfl, hc2, hb2, ho2⟩
  have HB2 := Lib.hid (HB1.out.trans (hb2.mono HB1.out.size))
  have HC2 := Lib.hid hc2
  have HO2 := Lib.hid (show ∀ g, g < w.heap.size → ow2 g = .no from fun g hg => ho2 g (Nat.lt_of_lt_of_le hg HB1.out.size))
  have HE2 := Lib.hid (HW1.out.of hb2 ho2)
  have hx4 : x < 4294967296 := by have := HH.out.1; omega
  try rw [hwg]
  clear hb2 hc2 ho2 hx hn hq hwg
  go_wp2_with fail
  refine (lawSetting_any 4 x w2 (by decide) hx4).mono ?_
  rintro e w3 ⟨A3, c3, rfl, ho3, hb3⟩
  have HR3 := Lib.hid ho3.rd
  have HB3 := Lib.hid hb3
  clear ho3 hb3
  go_wp2_with fail
  refine (lawFrame_any A3 6 c3 4 0 0 w3.heap.size (be 4 2 ++ be x 4) w3 HR3.out (Nat.le_refl _) (by decide) (by decide) (by decide) (by decide)).mono ?_
  rintro e w4 ⟨A4, c4, rfl, ho4, hb4⟩
  have HB4 := Lib.hid (HB3.out.trans (hb4.mono HB3.out.size))
  have HC4 := Lib.hid (HC2.out.below HB4.out)
  have HF4 := Lib.hid (Fr.below HB4.out ow2)
  have HO4 := Lib.hid (show Ow w4 w2.heap.size 5 (.slice A4 (9 + 6) c4) (9 + 6) (frameB 4 0 0 (setB [(4, x)])) from (show setB [(4, x)] = be 4 2 ++ be x 4 by simp [setB]) ▸ ho4.base HB3.out.size)
  clear ho4 hb4 HR3 HB3
  go_wp2_with fail
  refine (feed_any w4 ow2 b (newM 1 65535 0) L2 _ 1 A4 _ c4 _ (HE2.out.fr HF4.out) HC4.out HO4.out.rd (HO4.out.tagged HC2.out.new) rfl (by show 0 + (9 + 6) ≤ _; decide) (runs_setw (newM 1 65535 0) x HH.out.1 rfl rfl rfl rfl rfl (by decide) (by decide))).mono ?_
  rintro e w5 ⟨M5, A5, c5, ow5, L5, rfl, rfl, _, hc5, hf5, _, _, _⟩
  rw [show (setwM { newM 1 65535 0 with fed := [] } x).evs.length = 1 from rfl]
  have HC5 := Lib.hid hc5
  have HF5 := Lib.hid (HF4.out.trans hf5)
  clear hc5 hf5 HC4 HF4 HO4 HB4
  go_wp2_with fail
  refine (output_still w5 ow5 b _ L5 HC5.out List.Pairwise.nil (Nat.zero_le _) (fun s hs => by cases hs) (.inr fun s hs => by cases hs)).mono ?_
  rintro e w6 ⟨A6, c6, ow6, L6, rfl, _, _, _, hc6, hf6⟩
  have HC6 := Lib.hid (show CN w6 ow6 b (kB x) L6 from hc6)
  have HF6 := Lib.hid (HF5.out.trans hf6)
  generalize ({ setwM { newM 1 65535 0 with fed := [] } x with evs := [] } : Cv).out.length = n6
  clear hc6 hf6 HC5 HF5
  go_wp2_with fail
  refine (post_any w6).mono ?_
  rintro e w7 ⟨rfl, hr7, hb7⟩
  have HC7 := Lib.hid (HC6.out.below hb7)
  have HF7 := Lib.hid (HF6.out.trans (Fr.below hb7 ow6))
  have HR7 := Lib.hid hr7
  have HN7 := Lib.hid (HC6.out.new w6.heap.size (Nat.le_refl _))
  clear hr7 hb7 HC6 HF6
  go_wp2_with fail
  refine (copen_any w7 ow6 b (kB x) L6 (some ⟨w6.heap.size, 0, none⟩) 3 hs3 ix3n false (HE2.out.fr HF7.out) HC7.out rfl rfl rfl rfl (show (0 : Int) < 2147483647 by decide) (show 1 ≤ 2147483647 by decide) (fun s hs => by cases hs) List.nodup_nil (show (0 : Int) ≤ 65535 ∧ (65535 : Int) ≤ 2147483647 by decide) (show (0 : Int) ≤ (x : Int) ∧ (x : Int) ≤ 2147483647 by have := HH.out.1; omega) (Nat.zero_le _) (Nat.zero_le _) HR7.out (fun ad e => by injection e with e; rw [← e]; exact HN7.out) ix83 hs3_nv (by decide) (by decide) hs3_sz hs3_hsz szs3 opn3).mono ?_
  intro e w8 hp
  obtain rfl := hp.ret
  obtain ⟨ow8, L8, _, hc8, hf8⟩ := hp
  rw [show ((nxt (kB x) : Nat) : Int) = 1 from rfl]
  have HC8 := Lib.hid (show CN w8 ow8 b (kC x) L8 from hc8)
  have HF8 := Lib.hid (HF7.out.trans hf8)
  have HM8 := Lib.hid (HMk.out w8)
  have HB8 := Lib.hid ((Below.refl w8.heap.size w8).alloc (Nat.le_refl _) (.cells (Array.replicate n (bv 0)) 5))
  clear hc8 hf8 HC7 HF7 HR7 HN7
  go_wp2_with fail
  generalize w8.alloc (.cells (Array.replicate n (bv 0)) 5) = W8 at *
  have HC9 := Lib.hid (HC8.out.below HB8.out)
  have HF9 := Lib.hid (HF8.out.trans (Fr.below HB8.out ow8))
  refine (send_ok W8 ow8 b (kC x) L8 HC9.out rfl (sC x) 1 (kC_at x) rfl wf1w (some ⟨w8.heap.size, 0, none⟩) n n (List.replicate n 0) true HM8.out.rd (by have := HH.out.2.1; show 0 + n ≤ _; omega)).mono ?_
  intro e w10 hp
  obtain rfl := hp.ret
  obtain ⟨ow10, L10, _, hc10, hf10⟩ := hp
  have HC10 := Lib.hid (show CN w10 ow10 b (kD x n) L10 from hc10)
  have HF10 := Lib.hid (HF9.out.trans hf10)
  obtain ⟨k, hk⟩ : ∃ k, min n (min 65535 x) = k := ⟨_, rfl⟩
  obtain ⟨j1, F1, hs1, hN1, hE1, hok1⟩ := first_snd x n HH.out.1 HH.out.2.1 k hk
  have HK := Lib.hid hk
  have HS1 := Lib.hid (show _ ∧ _ ∧ _ ∧ _ from ⟨hs1, hN1, hE1, hok1⟩)
  clear hc10 hf10 HC8 HF8 HC9 HF9 HM8 HB8 hmk hs1 hN1 hE1 hok1 hk
  go_wp2_with fail
  refine (output_sends w10 ow10 b _ _ L10 j1 HC10.out HS1.out.1).mono ?_
  rintro e w11 ⟨A11, c11, ow11, L11, rfl, hle11, hr11, _, hc11, hf11⟩
  rw [show (pM (kD x n) (sD x n) k F1).out = fmsB (⟨1, 4, 1, ixB ix3n⟩ :: F1) from by show (kD x n).out ++ fmsB F1 = _; rw [kD_out]; rfl] at hr11 hle11 ⊢
  have HC11 := Lib.hid (show CN w11 ow11 b (kE x n k) L11 from hc11)
  have HF11 := Lib.hid (HF10.out.trans hf11)
  have HR11 := Lib.hid (show _ ∧ _ from ⟨hr11, hle11⟩)
  generalize (fmsB (⟨1, 4, 1, ixB ix3n⟩ :: F1)).length = n11 at *
  clear hle11 hr11 hc11 hf11 HC10 HF10
  have eN1 : fmsN (⟨1, 4, 1, ixB ix3n⟩ :: F1) = k := by show 0 + fmsN F1 = k; rw [Nat.zero_add]; exact HS1.out.2.1
  have eE1 : fmsE (⟨1, 4, 1, ixB ix3n⟩ :: F1) = decide (k = n) := by show (false || fmsE F1) = _; rw [Bool.false_or]; exact HS1.out.2.2.1
  have hd1 := lawData_any (⟨1, 4, 1, ixB ix3n⟩ :: F1) A11 n11 c11 w11 HR11.out.1 HR11.out.2 (by rw [eN1, ← HK.out]; have := HH.out.2.1; omega) (fun y hy => by
    rcases List.mem_cons.1 hy with rfl | hy
    · exact ⟨(show 1 ≤ 255 by decide), (show 4 ≤ 255 by decide), (show 1 ≤ 2147483647 by decide), (show 3 ≤ 1000000 by decide)⟩
    · exact HS1.out.2.2.2 y hy)
  rw [eN1, eE1] at hd1
  have HD1 := Lib.hid hd1
  clear eN1 eE1 hd1
  go_wp2_with fail
  refine HD1.out.mono ?_
  rintro e w12 ⟨rfl, hb12⟩
  have HC12 := Lib.hid (HC11.out.below hb12)
  have HF12 := Lib.hid (HF11.out.trans (Fr.below hb12 ow11))
  have hm1 : (if (65535 : Int) < (if x < n then (x : Int) else (n : Int)) then (65535 : Int) else if x < n then (x : Int) else (n : Int)) = (k : Int) := by rw [← HK.out]; have := HH.out; split <;> split <;> omega
  have HM1 := Lib.hid hm1
  clear hm1
  obtain ⟨dd, hdd⟩ : ∃ dd, n - k = dd := ⟨_, rfl⟩
  have hsub : wrap64 ((n : Int) - (k : Int)) = (dd : Int) := by have := HK.out; have := HH.out.2.1; unfold wrap64; omega
  have hsub2 : IntKind.i64.wrap ((n : Int) - (k : Int)) = (dd : Int) := by have := HK.out; have := HH.out.2.1; rw [IntKind.wrap_i64]; omega
  have HWt := Lib.hid (wwait w12 ow11 b (kE x n k) (pS (sD x n) k) L11 dd HC12.out (kE_at x n k) (by rw [pS_wait]; exact hdd))
  have HDd := Lib.hid hdd
  clear hb12 HD1 HR11 HC11 HF11 hdd
  go_upto_region 15 with fail
  rw [HM1.out]
  by_cases hkn : k = n
  · rw [decide_eq_true hkn]
    have q1 : ((k : Int) == (n : Int)) = true := by simp; omega
    have q2 : ((k : Int) = (n : Int)) = True := by simp; omega
    have HKn := Lib.hid hkn
    clear hkn
    go_wp2_with fail
    refine HWt.out.mono ?_
    rintro e w13 ⟨rfl, hw⟩
    subst w13
    go_wp2
    go_ret
    exact ⟨rfl, HF12.out.toBelow HB2.out HO2.out⟩
  · rw [decide_eq_false hkn]
    have q1 : ((k : Int) == (n : Int)) = false := by simp; omega
    have q2 : ((k : Int) = (n : Int)) = False := by simp; omega
    have HKn := Lib.hid (show k < n by have := HK.out; omega)
    clear hkn
    go_wp2_with fail
    refine HWt.out.mono ?_
    rintro e w13 ⟨rfl, hw⟩
    subst w13
    have hg4 : g < 4294967296 := by have := HH.out.2.2.2; omega
    obtain ⟨k2, hk2⟩ : ∃ k2, min (n - k) (min (65535 - k) (x - k + g)) = k2 := ⟨_, rfl⟩
    have hkx : k ≤ x := by have := HK.out; omega
    obtain ⟨j2, F2, hs2, hN2, hE2, hok2⟩ := second_snd x n k g HH.out.1 HH.out.2.1 hkx HKn.out HH.out.2.2.2 k2 hk2
    have HS2 := Lib.hid (show _ ∧ _ ∧ _ ∧ _ from ⟨hs2, hN2, hE2, hok2⟩)
    have HK2 := Lib.hid (show _ ∧ _ from ⟨hk2, hkx⟩)
    clear HWt hs2 hN2 hE2 hok2 hk2 hkx
    go_wp2_with fail
    refine (num_rdw g w12 hg4).mono ?_
    rintro e w13 ⟨rfl, hr13, hb13⟩
    have HR13 := Lib.hid hr13
    have HB13 := Lib.hid hb13
    clear hr13 hb13 hg4 hsub hsub2 q1 q2
    go_wp2_with fail
    refine (lawFrame_any (some ⟨w12.heap.size, 0, none⟩) 4 4 8 0 1 w13.heap.size (be g 4) w13 HR13.out (Nat.le_refl _) (by decide) (by decide) (by decide) (by decide)).mono ?_
    rintro e w14 ⟨A14, c14, rfl, ho14, hb14⟩
    have HB14 := Lib.hid (HB13.out.trans (hb14.mono HB13.out.size))
    have HO14 := Lib.hid (ho14.base HB13.out.size)
    have HC14 := Lib.hid (HC12.out.below HB14.out)
    have HF14 := Lib.hid (HF12.out.trans (Fr.below HB14.out ow11))
    clear ho14 hb14 HR13 HB13
    go_wp2_with fail
    refine (feed_any w14 ow11 b (kE x n k) L11 _ 1 A14 _ c14 _ (HE2.out.fr HF14.out) HC14.out HO14.out.rd (HO14.out.tagged HC12.out.new) rfl (by show 0 + (9 + 4) ≤ _; decide) (runs_kF x n k g HK2.out.2 HH.out.1 HH.out.2.2.1 HH.out.2.2.2)).mono ?_
    rintro e w15 ⟨M15, A15, c15, ow15, L15, rfl, rfl, _, hc15, hf15, _, _, _⟩
    rw [show (winM { kE x n k with evs := [] } (pS (sD x n) k) g).evs.length = 0 from rfl]
    have HC15 := Lib.hid (show CN w15 ow15 b (kF x n k g) L15 from hc15)
    have HF15 := Lib.hid (HF14.out.trans hf15)
    clear hc15 hf15 HC12 HF12 HC14 HF14 HO14 HB14
    go_wp2_with fail
    refine (output_sends w15 ow15 b _ _ L15 j2 HC15.out HS2.out.1).mono ?_
    rintro e w16 ⟨A16, c16, ow16, L16, rfl, hle16, hr16, _, hc16, hf16⟩
    rw [show (pM (kF x n k g) (sF x n k g) k2 F2).out = fmsB F2 from rfl] at hr16 hle16 ⊢
    have HC16 := Lib.hid hc16
    have HF16 := Lib.hid (HF15.out.trans hf16)
    have hd2 := lawData_any F2 A16 _ c16 w16 hr16 hle16 (by rw [HS2.out.2.1, ← HK2.out.1]; have := HH.out.2.1; omega) HS2.out.2.2.2
    rw [HS2.out.2.1, HS2.out.2.2.1] at hd2
    have HD2 := Lib.hid hd2
    generalize (fmsB F2).length = n16 at *
    clear hle16 hr16 hc16 hf16 HC15 HF15 hd2
    go_wp2_with fail
    refine HD2.out.mono ?_
    rintro e w17 ⟨rfl, hb17⟩
    have HC17 := Lib.hid (HC16.out.below hb17)
    have HF17 := Lib.hid (HF16.out.trans (Fr.below hb17 ow16))
    obtain ⟨xg, hxg⟩ : ∃ xg, x + g = xg := ⟨_, rfl⟩
    obtain ⟨kk, hkk⟩ : ∃ kk, k + k2 = kk := ⟨_, rfl⟩
    obtain ⟨d3, hd3⟩ : ∃ d3, n - k - k2 = d3 := ⟨_, rfl⟩
    have HWt2 := Lib.hid (wwait w17 ow16 b _ (pS (sF x n k g) k2) L16 d3 HC17.out (at_one1 rfl (sG_id x n k g k2)) (by rw [sF_wait]; exact hd3))
    obtain ⟨b1, b3, b4, b5, b6, hcase⟩ := win_facts x n g k k2 dd xg kk d3 HH.out.1 HH.out.2.1 HH.out.2.2.2 HK.out HKn.out HK2.out.1 HDd.out hxg hkk hd3
    have HCs := Lib.hid hcase
    clear hb17 HD2 HC16 HF16 hxg hkk hd3 hcase
    rcases HCs.out with ⟨d1, rfl, d2, rfl, rfl⟩ | ⟨d1, rfl, d2⟩
    · rw [d1]
      have c1 : (xg < kk) = False := eq_false (Nat.not_lt.2 d2)
      have c2 := big_false kk HH.out.2.1
      clear d1 d2 b5
      go_wp2_with fail
      refine HWt2.out.mono ?_
      rintro e w18 ⟨rfl, hw⟩
      subst w18
      go_wp2
      go_ret
      exact ⟨rfl, HF17.out.toBelow HB2.out HO2.out⟩
    · rw [d1]
      have c1 : (kk < n) = True := eq_true d2
      have c2 := big_false kk (Nat.le_of_lt (Nat.lt_of_lt_of_le d2 HH.out.2.1))
      obtain ⟨q3, q4⟩ := int_ne kk n d2
      clear d1 d2
      go_wp2_with fail
      refine HWt2.out.mono ?_
      rintro e w18 ⟨rfl, hw⟩
      subst w18
      go_wp2
      go_ret
      exact ⟨rfl, HF17.out.toBelow HB2.out HO2.out⟩
/-- The walk of ConnWindow. -/
theorem connWindow_any (w : World) (hW : EnvW w) (wv nv gv : Int) : Calls Tryz.prog 7 #[.int .i64 wv, .int .i64 nv, .int .i64 gv] w fun e w' => e = .returned (.bool true) ∧ Below w.heap.size w w' := by
  obtain ⟨x, hx, e1⟩ := and_mask wv 65535 (by decide)
  obtain ⟨n, hn, e2⟩ := and_mask nv 65535 (by decide)
  obtain ⟨q, hq, e3⟩ := and_mask gv 65535 (by decide)
  exact window_small w hW wv nv gv x n q (q + 1) e1 hx e2 hn e3 hq rfl
end Go.Proofs.YtkpppjhbmnfmkaaGreatDoor
