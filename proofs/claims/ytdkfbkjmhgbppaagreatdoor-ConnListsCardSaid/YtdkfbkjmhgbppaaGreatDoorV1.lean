/-
  The walk of ConnLists.
-/
import Derived.Test.YtdkfbkjmhgbppaaGreatDoorJz
import Derived.Test.YtdkfbkjmhgbppaaGreatDoorKb
import Derived.Test.YtdkfbkjmhgbppaaGreatDoorJw
set_option linter.unusedSimpArgs false
set_option linter.unusedVariables false
namespace Go.Proofs.YtdkfbkjmhgbppaaGreatDoor
open Go.RowKit Go.Own Go.Own.Im Go.Own.Cx Go.Own.Fr Go.Own.Hd
/-- An end that was greeted; a client has opened a stream. -/
def lsM (s : Nat) : Cv := if s = 1 then opcM (gM 1 10) true ix3n else gM 2 10
/-- The same, with k zeros of a list. -/
def lsK (s k : Nat) : Cv := { lsM s with evs := [], list := some (1, false, List.replicate k 0) }
theorem lsM_out (s : Nat) : (lsM s).out.length ≤ 2000 := by
  unfold lsM
  split
  · show ((gM 1 10).out ++ _).length ≤ _
    rw [List.length_append, frameB_len]
    have := gM_out 1 10
    simp [ixB, ix3n]
    omega
  · have := gM_out 2 10
    omega
theorem lsM_facts (s : Nat) : (lsM s).preface = 24 ∧ (lsM s).dead = false ∧ (lsM s).greeted = true ∧ (lsM s).list = none ∧ (lsM s).fed = [] ∧ (lsM s).last ≤ 1 := by
  unfold lsM
  split <;> refine ⟨rfl, rfl, rfl, rfl, rfl, ?_⟩ <;> decide
theorem runs_first (s : Nat) (hs : s = 1 ∨ s = 2) : Runs 1 { lsM s with evs := [], fed := (lsM s).fed ++ frameB 1 0 1 [] } (fun M' => M' = lsK s 0) := by
  obtain ⟨h1, h2, h3, h4, h5, _⟩ := lsM_facts s
  rcases hs with rfl | rfl
  · exact runs_begin1 (lsM 1) 1 h1 h2 h3 h4 rfl (by decide) (by decide) h5
  · exact runs_begin2 (lsM 2) 1 h1 h2 h3 h4 rfl (by decide) (by decide) h5
theorem runs_next (s k z : Nat) (hk : k + z ≤ 16384) : Runs 1 { lsK s k with evs := [], fed := (lsK s k).fed ++ frameB 9 0 1 (List.replicate z 0) } (fun M' => M' = lsK s (k + z)) := by
  obtain ⟨h1, h2, h3, _, h5, _⟩ := lsM_facts s
  have h := runs_goes (lsK s k) 1 (List.replicate k 0) (List.replicate z 0) h1 h2 h3 rfl (by decide) (by decide) h5 (by simpa using hk)
  rw [List.replicate_append_replicate] at h
  exact h
theorem runs_last (s k z : Nat) (hk : 16384 < k + z) (h6 : k ≤ 16384) (h7 : z ≤ 16384) : Runs 1 { lsK s k with evs := [], fed := (lsK s k).fed ++ frameB 9 0 1 (List.replicate z 0) } (fun M' => M' = deadM (lsK s k) 11) := by
  obtain ⟨h1, h2, h3, _, h5, hla⟩ := lsM_facts s
  exact runs_over (lsK s k) 1 (List.replicate k 0) (List.replicate z 0) h1 h2 h3 rfl (by decide) (by decide) h5 (by simpa using hk) (by simpa using h6) (by simpa using h7) (by show (lsM s).last ≤ _; omega) (by have := lsM_out s; show (lsM s).out.length ≤ _; omega)
/-- Between two rounds. -/
def LsR (s z b : Nat) (w2 : World) (ow2 : Nat → Tg) (sv iv : Value) (wr : World) : Prop :=
  ∃ (k : Nat) (ow' : Nat → Tg) (L' : Lay), sv = .int .i64 (k * z : Nat) ∧ iv = .int .i64 (k : Nat) ∧ k * z ≤ 16384 ∧ CN wr ow' b (lsK s (k * z)) L' ∧ Fr w2 ow2 wr ow'
set_option maxHeartbeats 16000000 in
set_option maxRecDepth 100000 in
theorem lists_side (w : World) (hW : EnvW w) (size side : Int) (s q z : Nat) (hs : s = 1 ∨ s = 2) (hsd : bits .and .i64 side 1 = (s : Int) - 1) (hz : bits .and .i64 size 4095 = (q : Int)) (hq : q ≤ 4095) (hqz : z = q + 1) :
    Calls Tryz.prog 5 #[.int .i64 size, .int .i64 side] w fun e w' => e = .returned (.bool true) ∧ Below w.heap.size w w' := by
  have HW := Lib.hid hW
  have HF := Lib.hid (first_any w hW)
  have HNw := Lib.hid (fun w => newS_any s hs w 65535 10 (by decide) (by decide))
  have HHl := Lib.hid (helloS_any s hs)
  have HSs := Lib.hid (show SideOk s from hs)
  have HMk := Lib.hid (mk_zeros2 (P := Tryz.prog) byteP z (by omega)).2
  have hmk := (mk_zeros2 (P := Tryz.prog) byteP z (by omega)).1
  have hwz : wrap64 ((q : Int) + 1) = (z : Int) := by unfold wrap64; omega
  have hwz2 : IntKind.i64.wrap ((q : Int) + 1) = (z : Int) := by rw [IntKind.wrap_i64]; omega
  have HZ := Lib.hid (show 1 ≤ z ∧ z ≤ 4096 by omega)
  clear hW hs hq hqz
  rcases (show s = 1 ∨ s = 2 from HSs.out) with rfl | rfl
  · have hsd' := hsd
    clear hsd
    simp at hsd'
    go_enter Tryz.func5, Tryz.ntmps5
    go_wp2_with fail
    refine HF.out.mono ?_
    rintro e w1 ⟨rfl, hb1⟩
    have HB1 := Lib.hid hb1
    have HW1 := Lib.hid (HW.out.below hb1)
    clear hb1
    go_wp2_with fail
    refine (HNw.out w1).mono ?_
    rintro e w2 ⟨b, ow2, L2, rfl, hc2, hb2, ho2⟩
    have HB2 := Lib.hid (HB1.out.trans (hb2.mono HB1.out.size))
    have HC2 := Lib.hid hc2
    have HO2 := Lib.hid (show ∀ g, g < w.heap.size → ow2 g = .no from fun g hg => ho2 g (Nat.lt_of_lt_of_le hg HB1.out.size))
    have HE2 := Lib.hid (HW1.out.of hb2 ho2)
    clear hb2 hc2 ho2
    go_wp2_with fail
    refine (HHl.out w2).mono ?_
    rintro e w3 ⟨A3, n3, c3, rfl, hn3, hz3, hb3⟩
    have HC3 := Lib.hid (HC2.out.below hb3)
    have HF3 := Lib.hid (Fr.below hb3 ow2)
    have HE3 := Lib.hid (HE2.out.fr HF3.out)
    have HZ3 := Lib.hid hz3
    have hn3' : n3 ≤ 140737488355328 := by omega
    clear hb3 hz3 hn3
    go_wp2_with fail
    refine (feed_any w3 ow2 b _ L2 _ 26 A3 _ c3 _ HE3.out HC3.out HZ3.out.rd (HZ3.out.tagged HC2.out.new) rfl (by show 0 + n3 ≤ _; omega) (runs_helloS _ 10 HSs.out)).mono ?_
    rintro e w4 ⟨M4, A4, c4, ow4, L4, rfl, rfl, hle4, hc4, hf4, _, _, _⟩
    have HC4 := Lib.hid (show CN w4 ow4 b (gM 1 10) L4 from hc4)
    have HF4 := Lib.hid (HF3.out.trans hf4)
    clear hle4 hc4 hf4 HC3 HE3 HZ3 hn3'
    go_wp2_with fail
    refine (post_any w4).mono ?_
    rintro e w5 ⟨rfl, hr5, hb5⟩
    have HC5 := Lib.hid (HC4.out.below hb5)
    have HF5 := Lib.hid (HF4.out.trans (Fr.below hb5 ow4))
    have HR5 := Lib.hid hr5
    have HN5 := Lib.hid (HC4.out.new w4.heap.size (Nat.le_refl _))
    clear hr5 hb5 HC4 HF4
    go_wp2_with fail
    refine (copen_any w5 ow4 b (gM 1 10) L4 (some ⟨w4.heap.size, 0, none⟩) 3 hs3 ix3n true (HE2.out.fr HF5.out) HC5.out rfl rfl rfl rfl (by decide) (by decide) (fun s hs => by cases hs) List.nodup_nil ⟨by decide, by decide⟩ ⟨by decide, by decide⟩ (Nat.zero_le _) (by have := gM_out 1 10; omega) HR5.out (fun ad e => by injection e with e; rw [← e]; exact HN5.out) ix83 hs3_nv (by decide) (by decide) hs3_sz hs3_hsz szs3 opn3).mono ?_
    intro e w6 hp
    obtain rfl := hp.ret
    obtain ⟨ow6, L6, _, hc6, hf6⟩ := hp
    have HC6 := Lib.hid (show CN w6 ow6 b (lsM 1) L6 from hc6)
    have HF6 := Lib.hid (HF5.out.trans hf6)
    clear hc6 hf6 HC5 HF5 HR5 HN5
    go_wp2_with fail
    refine (lawFrame_any none 0 0 1 0 1 w6.heap.size [] w6 ⟨rfl, fun h => absurd h (by omega)⟩ (Nat.le_refl _) (by decide) (by decide) (by decide) (by decide)).mono ?_
    rintro e w7 ⟨A7, c7, rfl, ho7, hb7⟩
    have HC7 := Lib.hid (HC6.out.below hb7)
    have HF7 := Lib.hid (HF6.out.trans (Fr.below hb7 ow6))
    have HO7 := Lib.hid ho7
    clear ho7 hb7
    go_wp2_with fail
    refine (feed_any w7 ow6 b _ L6 _ 1 A7 _ c7 _ (HE2.out.fr HF7.out) HC7.out HO7.out.rd (HO7.out.tagged HC6.out.new) (lsM_facts 1).2.1 (by rw [(lsM_facts 1).2.2.2.2.1]; show 0 + (9 + 0) ≤ _; decide) (runs_first 1 HSs.out)).mono ?_
    rintro e w8 ⟨M8, A8, c8, ow8, L8, rfl, rfl, hle8, hc8, hf8, _, _, _⟩
    have HC8 := Lib.hid (show CN w8 ow8 b (lsK 1 0) L8 from hc8)
    have HF8 := Lib.hid (HF7.out.trans hf8)
    clear hle8 hc8 hf8 HC7 HF7 HO7 HC6 HF6
    go_upto_region 13 with fail
    clear hsd' hz hwz hwz2
    go_loopw [8, 9] (fun sv iv wr => Hid (LsR 1 z b w2 ow2 sv iv wr)) (fun _ iv _ => 20000 - (intOf iv).toNat)
    case atStart => exact ⟨0, ow8, L8, by simp, rfl, by omega, by rw [Nat.zero_mul]; exact HC8.out, HF8.out⟩
    case round =>
      obtain ⟨k, owr, Lr, rfl, rfl, hk, hcr, hfr⟩ := hrel
      have HCr := Lib.hid hcr
      have HFr := Lib.hid hfr
      have HK := Lib.hid hk
      have hkz : k ≤ k * z := Nat.le_mul_of_pos_right k HZ.out.1
      have hltI : ((k : Int) < 20000) = True := by simp; omega
      have hltN : (k < 20000) = True := by simp; omega
      obtain ⟨p, hp⟩ : ∃ p, k * z = p := ⟨_, rfl⟩
      obtain ⟨p2, hp2⟩ : ∃ p, (k + 1) * z = p := ⟨_, rfl⟩
      have hpp : p2 = p + z := by rw [← hp2, ← hp, Nat.add_mul]; omega
      have HP := Lib.hid (show _ ∧ _ ∧ _ from ⟨hp, hp2, hpp⟩)
      rw [hp] at HCr HK hkz hk ⊢
      have hs1 : wrap64 ((p : Int) + (z : Int)) = (p2 : Int) := by have := HZ.out; unfold wrap64; omega
      have hs2 : IntKind.i64.wrap ((p : Int) + (z : Int)) = (p2 : Int) := by have := HZ.out; rw [IntKind.wrap_i64]; omega
      have hk1 : wrap64 ((k : Int) + 1) = ((k + 1 : Nat) : Int) := by unfold wrap64; omega
      have HK1 := Lib.hid hk1
      have HM9 := Lib.hid (HMk.out wr)
      have HB9 := Lib.hid ((Below.refl wr.heap.size wr).alloc (Nat.le_refl _) (.cells (Array.replicate z (bv 0)) 5))
      have hzz := HZ.out.2
      clear hcr hfr hk hkz hp hp2 hpp hk1
      go_wp2_with fail
      clear hltI hltN
      generalize wr.alloc (.cells (Array.replicate z (bv 0)) 5) = W9 at *
      refine (lawFrame_any (some ⟨wr.heap.size, 0, none⟩) z z 9 0 1 W9.heap.size (List.replicate z 0) W9 HM9.out.rd (Nat.le_refl _) (by omega) (by decide) (by decide) (by decide)).mono ?_
      rintro e w10 ⟨A10, c10, rfl, ho10, hb10⟩
      have HB10 := Lib.hid (HB9.out.trans (hb10.mono HB9.out.size))
      have HC10 := Lib.hid (HCr.out.below HB10.out)
      have HF10 := Lib.hid (HFr.out.trans (Fr.below HB10.out owr))
      have HO10 := Lib.hid (ho10.base HB9.out.size)
      clear ho10 hb10 hzz
      have hlen : (lsK 1 p).fed.length + (9 + z) ≤ 140737488355328 := by rw [show (lsK 1 p).fed = (lsM 1).fed from rfl, (lsM_facts 1).2.2.2.2.1]; have := HZ.out; simp; omega
      have HLen := Lib.hid hlen
      clear hlen
      go_wp2_with fail
      by_cases hle : p + z ≤ 16384
      · have k3 : ((16384 : Int) < (p2 : Int)) = False := by have := HP.out.2.2; simp; omega
        have k3' : (16384 < p2) = False := by have := HP.out.2.2; simp; omega
        refine (feed_any w10 owr b _ Lr _ 1 A10 _ c10 _ (HE2.out.fr HF10.out) HC10.out HO10.out.rd (HO10.out.tagged HCr.out.new) (lsM_facts 1).2.1 HLen.out (runs_next 1 p z hle)).mono ?_
        rintro e w11 ⟨M11, A11, c11, ow11, L11, rfl, rfl, hle11, hc11, hf11, _, _, _⟩
        rw [show (lsK 1 (p + z)).evs.length = 0 from rfl]
        have HC11 := Lib.hid (show CN w11 ow11 b (lsK 1 p2) L11 from HP.out.2.2 ▸ hc11)
        have HF11 := Lib.hid (HF10.out.trans hf11)
        clear hle11 hc11 hf11 hle
        go_wp2_with fail
        refine (dead_any w11 ow11 b _ L11 HC11.out).mono ?_
        rintro e w12 ⟨rfl, m, hw12⟩
        rw [show (((lsK 1 p2).code : Nat) : Int) = 0 from rfl, show (lsK 1 p2).dead = false from rfl]
        have HC12 := Lib.hid (show CN w12 ow11 b (lsK 1 p2) L11 from hw12 ▸ HC11.out.drewN m)
        have HF12 := Lib.hid (show Fr w2 ow2 w12 ow11 from hw12 ▸ (HF11.out.trans (Fr.drewN w11 ow11 m)))
        have HKl := Lib.hid (show p2 ≤ 16384 by simp at k3'; omega)
        clear hw12
        go_wp2_with fail
        rw [HK1.out]
        refine ⟨⟨k + 1, ow11, L11, by rw [HP.out.2.1], rfl, by rw [HP.out.2.1]; exact HKl.out, by rw [HP.out.2.1]; exact HC12.out, HF12.out⟩, ?_⟩
        have hk9 := HK.out
        have hzp := HZ.out.1
        have := Nat.le_mul_of_pos_right k hzp
        rw [HP.out.1] at this
        simp [intOf]
        omega
      · have k3 : ((16384 : Int) < (p2 : Int)) = True := by have := HP.out.2.2; simp; omega
        have k3' : (16384 < p2) = True := by have := HP.out.2.2; simp; omega
        refine (feed_any w10 owr b _ Lr _ 1 A10 _ c10 _ (HE2.out.fr HF10.out) HC10.out HO10.out.rd (HO10.out.tagged HCr.out.new) (lsM_facts 1).2.1 HLen.out (runs_last 1 p z (by omega) HK.out (by have := HZ.out; omega))).mono ?_
        rintro e w11 ⟨M11, A11, c11, ow11, L11, rfl, rfl, hle11, hc11, hf11, _, _, _⟩
        rw [show (deadM (lsK 1 p) 11).evs.length = 1 from rfl]
        have HC11 := Lib.hid hc11
        have HF11 := Lib.hid (HF10.out.trans hf11)
        clear hle11 hc11 hf11 hle
        go_wp2_with fail
        refine (dead_any w11 ow11 b _ L11 HC11.out).mono ?_
        rintro e w12 ⟨rfl, m, hw12⟩
        rw [show ((({ deadM (lsK 1 p) 11 with evs := [] } : Cv).code : Nat) : Int) = 11 from rfl, show ({ deadM (lsK 1 p) 11 with evs := [] } : Cv).dead = true from rfl]
        have HF12 := Lib.hid (show Fr w2 ow2 w12 ow11 from hw12 ▸ (HF11.out.trans (Fr.drewN w11 ow11 m)))
        clear hw12
        go_wp2
        go_ret
        exact ⟨rfl, HF12.out.toBelow HB2.out HO2.out⟩
  · have hsd' := hsd
    clear hsd
    simp at hsd'
    go_enter Tryz.func5, Tryz.ntmps5
    go_wp2_with fail
    refine HF.out.mono ?_
    rintro e w1 ⟨rfl, hb1⟩
    have HB1 := Lib.hid hb1
    have HW1 := Lib.hid (HW.out.below hb1)
    clear hb1
    go_wp2_with fail
    refine (HNw.out w1).mono ?_
    rintro e w2 ⟨b, ow2, L2, rfl, hc2, hb2, ho2⟩
    have HB2 := Lib.hid (HB1.out.trans (hb2.mono HB1.out.size))
    have HC2 := Lib.hid hc2
    have HO2 := Lib.hid (show ∀ g, g < w.heap.size → ow2 g = .no from fun g hg => ho2 g (Nat.lt_of_lt_of_le hg HB1.out.size))
    have HE2 := Lib.hid (HW1.out.of hb2 ho2)
    clear hb2 hc2 ho2
    go_wp2_with fail
    refine (HHl.out w2).mono ?_
    rintro e w3 ⟨A3, n3, c3, rfl, hn3, hz3, hb3⟩
    have HC3 := Lib.hid (HC2.out.below hb3)
    have HF3 := Lib.hid (Fr.below hb3 ow2)
    have HE3 := Lib.hid (HE2.out.fr HF3.out)
    have HZ3 := Lib.hid hz3
    have hn3' : n3 ≤ 140737488355328 := by omega
    clear hb3 hz3 hn3
    go_wp2_with fail
    refine (feed_any w3 ow2 b _ L2 _ 26 A3 _ c3 _ HE3.out HC3.out HZ3.out.rd (HZ3.out.tagged HC2.out.new) rfl (by show 0 + n3 ≤ _; omega) (runs_helloS _ 10 HSs.out)).mono ?_
    rintro e w4 ⟨M4, A4, c4, ow4, L4, rfl, rfl, hle4, hc4, hf4, _, _, _⟩
    have HC6 := Lib.hid (show CN w4 ow4 b (lsM 2) L4 from hc4)
    have HF6 := Lib.hid (HF3.out.trans hf4)
    clear hle4 hc4 hf4 HC3 HE3 HZ3 hn3'
    go_wp2_with fail
    refine (lawFrame_any none 0 0 1 0 1 w4.heap.size [] w4 ⟨rfl, fun h => absurd h (by omega)⟩ (Nat.le_refl _) (by decide) (by decide) (by decide) (by decide)).mono ?_
    rintro e w7 ⟨A7, c7, rfl, ho7, hb7⟩
    have HC7 := Lib.hid (HC6.out.below hb7)
    have HF7 := Lib.hid (HF6.out.trans (Fr.below hb7 ow4))
    have HO7 := Lib.hid ho7
    clear ho7 hb7
    go_wp2_with fail
    refine (feed_any w7 ow4 b _ L4 _ 1 A7 _ c7 _ (HE2.out.fr HF7.out) HC7.out HO7.out.rd (HO7.out.tagged HC6.out.new) (lsM_facts 2).2.1 (by rw [(lsM_facts 2).2.2.2.2.1]; show 0 + (9 + 0) ≤ _; decide) (runs_first 2 HSs.out)).mono ?_
    rintro e w8 ⟨M8, A8, c8, ow8, L8, rfl, rfl, hle8, hc8, hf8, _, _, _⟩
    have HC8 := Lib.hid (show CN w8 ow8 b (lsK 2 0) L8 from hc8)
    have HF8 := Lib.hid (HF7.out.trans hf8)
    clear hle8 hc8 hf8 HC7 HF7 HO7 HC6 HF6
    go_upto_region 13 with fail
    clear hsd' hz hwz hwz2
    go_loopw [8, 9] (fun sv iv wr => Hid (LsR 2 z b w2 ow2 sv iv wr)) (fun _ iv _ => 20000 - (intOf iv).toNat)
    case atStart => exact ⟨0, ow8, L8, by simp, rfl, by omega, by rw [Nat.zero_mul]; exact HC8.out, HF8.out⟩
    case round =>
      obtain ⟨k, owr, Lr, rfl, rfl, hk, hcr, hfr⟩ := hrel
      have HCr := Lib.hid hcr
      have HFr := Lib.hid hfr
      have HK := Lib.hid hk
      have hkz : k ≤ k * z := Nat.le_mul_of_pos_right k HZ.out.1
      have hltI : ((k : Int) < 20000) = True := by simp; omega
      have hltN : (k < 20000) = True := by simp; omega
      obtain ⟨p, hp⟩ : ∃ p, k * z = p := ⟨_, rfl⟩
      obtain ⟨p2, hp2⟩ : ∃ p, (k + 1) * z = p := ⟨_, rfl⟩
      have hpp : p2 = p + z := by rw [← hp2, ← hp, Nat.add_mul]; omega
      have HP := Lib.hid (show _ ∧ _ ∧ _ from ⟨hp, hp2, hpp⟩)
      rw [hp] at HCr HK hkz hk ⊢
      have hs1 : wrap64 ((p : Int) + (z : Int)) = (p2 : Int) := by have := HZ.out; unfold wrap64; omega
      have hs2 : IntKind.i64.wrap ((p : Int) + (z : Int)) = (p2 : Int) := by have := HZ.out; rw [IntKind.wrap_i64]; omega
      have hk1 : wrap64 ((k : Int) + 1) = ((k + 1 : Nat) : Int) := by unfold wrap64; omega
      have HK1 := Lib.hid hk1
      have HM9 := Lib.hid (HMk.out wr)
      have HB9 := Lib.hid ((Below.refl wr.heap.size wr).alloc (Nat.le_refl _) (.cells (Array.replicate z (bv 0)) 5))
      have hzz := HZ.out.2
      clear hcr hfr hk hkz hp hp2 hpp hk1
      go_wp2_with fail
      clear hltI hltN
      generalize wr.alloc (.cells (Array.replicate z (bv 0)) 5) = W9 at *
      refine (lawFrame_any (some ⟨wr.heap.size, 0, none⟩) z z 9 0 1 W9.heap.size (List.replicate z 0) W9 HM9.out.rd (Nat.le_refl _) (by omega) (by decide) (by decide) (by decide)).mono ?_
      rintro e w10 ⟨A10, c10, rfl, ho10, hb10⟩
      have HB10 := Lib.hid (HB9.out.trans (hb10.mono HB9.out.size))
      have HC10 := Lib.hid (HCr.out.below HB10.out)
      have HF10 := Lib.hid (HFr.out.trans (Fr.below HB10.out owr))
      have HO10 := Lib.hid (ho10.base HB9.out.size)
      clear ho10 hb10 hzz
      have hlen : (lsK 2 p).fed.length + (9 + z) ≤ 140737488355328 := by rw [show (lsK 2 p).fed = (lsM 2).fed from rfl, (lsM_facts 2).2.2.2.2.1]; have := HZ.out; simp; omega
      have HLen := Lib.hid hlen
      clear hlen
      go_wp2_with fail
      by_cases hle : p + z ≤ 16384
      · have k3 : ((16384 : Int) < (p2 : Int)) = False := by have := HP.out.2.2; simp; omega
        have k3' : (16384 < p2) = False := by have := HP.out.2.2; simp; omega
        refine (feed_any w10 owr b _ Lr _ 1 A10 _ c10 _ (HE2.out.fr HF10.out) HC10.out HO10.out.rd (HO10.out.tagged HCr.out.new) (lsM_facts 2).2.1 HLen.out (runs_next 2 p z hle)).mono ?_
        rintro e w11 ⟨M11, A11, c11, ow11, L11, rfl, rfl, hle11, hc11, hf11, _, _, _⟩
        rw [show (lsK 2 (p + z)).evs.length = 0 from rfl]
        have HC11 := Lib.hid (show CN w11 ow11 b (lsK 2 p2) L11 from HP.out.2.2 ▸ hc11)
        have HF11 := Lib.hid (HF10.out.trans hf11)
        clear hle11 hc11 hf11 hle
        go_wp2_with fail
        refine (dead_any w11 ow11 b _ L11 HC11.out).mono ?_
        rintro e w12 ⟨rfl, m, hw12⟩
        rw [show (((lsK 2 p2).code : Nat) : Int) = 0 from rfl, show (lsK 2 p2).dead = false from rfl]
        have HC12 := Lib.hid (show CN w12 ow11 b (lsK 2 p2) L11 from hw12 ▸ HC11.out.drewN m)
        have HF12 := Lib.hid (show Fr w2 ow2 w12 ow11 from hw12 ▸ (HF11.out.trans (Fr.drewN w11 ow11 m)))
        have HKl := Lib.hid (show p2 ≤ 16384 by simp at k3'; omega)
        clear hw12
        go_wp2_with fail
        rw [HK1.out]
        refine ⟨⟨k + 1, ow11, L11, by rw [HP.out.2.1], rfl, by rw [HP.out.2.1]; exact HKl.out, by rw [HP.out.2.1]; exact HC12.out, HF12.out⟩, ?_⟩
        have hk9 := HK.out
        have hzp := HZ.out.1
        have := Nat.le_mul_of_pos_right k hzp
        rw [HP.out.1] at this
        simp [intOf]
        omega
      · have k3 : ((16384 : Int) < (p2 : Int)) = True := by have := HP.out.2.2; simp; omega
        have k3' : (16384 < p2) = True := by have := HP.out.2.2; simp; omega
        refine (feed_any w10 owr b _ Lr _ 1 A10 _ c10 _ (HE2.out.fr HF10.out) HC10.out HO10.out.rd (HO10.out.tagged HCr.out.new) (lsM_facts 2).2.1 HLen.out (runs_last 2 p z (by omega) HK.out (by have := HZ.out; omega))).mono ?_
        rintro e w11 ⟨M11, A11, c11, ow11, L11, rfl, rfl, hle11, hc11, hf11, _, _, _⟩
        rw [show (deadM (lsK 2 p) 11).evs.length = 1 from rfl]
        have HC11 := Lib.hid hc11
        have HF11 := Lib.hid (HF10.out.trans hf11)
        clear hle11 hc11 hf11 hle
        go_wp2_with fail
        refine (dead_any w11 ow11 b _ L11 HC11.out).mono ?_
        rintro e w12 ⟨rfl, m, hw12⟩
        rw [show ((({ deadM (lsK 2 p) 11 with evs := [] } : Cv).code : Nat) : Int) = 11 from rfl, show ({ deadM (lsK 2 p) 11 with evs := [] } : Cv).dead = true from rfl]
        have HF12 := Lib.hid (show Fr w2 ow2 w12 ow11 from hw12 ▸ (HF11.out.trans (Fr.drewN w11 ow11 m)))
        clear hw12
        go_wp2
        go_ret
        exact ⟨rfl, HF12.out.toBelow HB2.out HO2.out⟩
/-- The walk of ConnLists. -/
theorem connLists_any (w : World) (hW : EnvW w) (size side : Int) : Calls Tryz.prog 5 #[.int .i64 size, .int .i64 side] w fun e w' => e = .returned (.bool true) ∧ Below w.heap.size w w' := by
  obtain ⟨q, hq, e⟩ := and_mask side 1 (by decide)
  obtain ⟨q2, hq2, e2⟩ := and_mask size 4095 (by decide)
  exact lists_side w hW size side (q + 1) q2 (q2 + 1) (by omega) (by rw [show ((1 : Nat) : Int) = 1 from rfl] at e; rw [e]; omega) e2 hq2 rfl
end Go.Proofs.YtdkfbkjmhgbppaaGreatDoor
