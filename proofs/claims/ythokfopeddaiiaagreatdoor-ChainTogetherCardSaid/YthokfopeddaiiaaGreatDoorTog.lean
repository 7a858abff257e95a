/-
  ChainTogether: it does not matter which interceptors are taken together first.
-/
import Derived.Test.YthokfopeddaiiaaGreatDoorFst
import Derived.Test.YthokfopeddaiiaaGreatDoorOns
import Derived.Deep.RegionWith
import Derived.Deep.DrawnRows
import Derived.Deep.RegionHeld3
namespace Go.Proofs.YthokfopeddaiiaaGreatDoor
open Go.RowKit Go.Own Go.Own.Fn Go.Shelf
attribute [local go_sem ↓] Go.wp_at_zero Go.wp_at_succ
theorem wpAnyH_imp {Pr : Program} {md : Region.Mode} {ops : Array Oper} {Q : Exit → Act → World → Prop} {S S' : World → Prop} (hS : ∀ w, S' w → S w) : ∀ {fuel : Nat} {listed : Array Bool} {a : Act} {w : World}, wpAnyH Pr md ops Q S' fuel listed a w → wpAnyH Pr md ops Q S fuel listed a w
  | 0, _, _, _, h => h
  | _ + 1, _, _, _, h => ⟨h.1, fun i hi => wpOp_mono (fun _ w' h' => ⟨hS w' h'.1, wpAnyH_imp hS h'.2⟩) (h.2 i hi)⟩
set_option maxHeartbeats 16000000 in
set_option maxRecDepth 100000 in
theorem chainTogether_any (A1 A2 A3 : Option Addr) (n1 c1 n2 c2 n3 c3 : Nat) (l1 l2 l3 : List (Int × Int)) (x : Int) (w : World) (h1 : n1 ≤ c1) (h2 : n2 ≤ c2) (h3 : n3 ≤ c3) (m1 : c1 ≤ 9223372036854775807) (m2 : c2 ≤ 9223372036854775807) (m3 : c3 ≤ 9223372036854775807) (o1 : On w A1 n1 l1) (o2 : On w A2 n2 l2) (o3 : On w A3 n3 l3) (he : EnvC w) :
    Calls Tryz.prog 7 #[.slice A1 n1 c1, .slice A2 n2 c2, .slice A3 n3 c3, .int .i64 x] w fun e w' => e = .returned (.bool true) ∧ Below w.heap.size w w' := by
  have HF := Lib.hid (first_any w he)
  have HM := Lib.hid (show n1 ≤ 9223372036854775807 ∧ n2 ≤ 9223372036854775807 ∧ n3 ≤ 9223372036854775807 by omega)
  have HO := Lib.hid (And.intro o1 (And.intro o2 o3))
  clear he o1 o2 o3 h1 h2 h3 m1 m2 m3
  go_enter Tryz.func7, Tryz.ntmps7
  go_wp2_with fail
  refine HF.out.mono ?_
  rintro e w1 ⟨rfl, g1⟩
  have HB1 := Lib.hid g1
  have HO1 := Lib.hid (And.intro (HO.out.1.below g1) (And.intro (HO.out.2.1.below g1) (HO.out.2.2.below g1)))
  clear g1 HF HO
  go_wp2_with fail
  refine (few_any A1 n1 c1 l1 w1 HM.out.1 HO1.out.1).mono ?_
  rintro e wx ⟨r, rfl, hr, hw⟩
  have hw := hw.symm
  subst hw
  rcases r with _ | _
  · clear hr
    go_wp2
    go_ret
    exact ⟨rfl, HB1.out⟩
  have N1 := Lib.hid (hr rfl)
  clear hr
  go_wp2_with fail
  refine (few_any A2 n2 c2 l2 w1 HM.out.2.1 HO1.out.2.1).mono ?_
  rintro e wx ⟨r, rfl, hr, hw⟩
  have hw := hw.symm
  subst hw
  rcases r with _ | _
  · clear hr
    go_wp2
    go_ret
    exact ⟨rfl, HB1.out⟩
  have N2 := Lib.hid (hr rfl)
  clear hr
  go_wp2_with fail
  refine (few_any A3 n3 c3 l3 w1 HM.out.2.2 HO1.out.2.2).mono ?_
  rintro e wx ⟨r, rfl, hr, hw⟩
  have hw := hw.symm
  subst hw
  rcases r with _ | _
  · clear hr
    go_wp2
    go_ret
    exact ⟨rfl, HB1.out⟩
  have N3 := Lib.hid (hr rfl)
  clear hr
  have b1 : n1 ≤ 20 := N1.out
  have b2 : n2 ≤ 20 := N2.out
  have b3 : n3 ≤ 20 := N3.out
  by_cases hs : n1 + n2 + n3 ≤ 24
  rotate_left
  · have hs2 : 24 < n1 + n2 + n3 := by omega
    go_wp2
    go_ret
    exact ⟨rfl, HB1.out⟩
  have z1 := HO1.out.1
  clear z1
  go_wp2_with (first
    | (at_make
       refine wpList_mk_o _ rfl rfl ?_
       intro wm hown hb hlt
       have H0 := Lib.hid (And.intro hown hb)
       clear hown hb hlt)
    | (at_builtin
       refine wpList_app_o _ rfl (.tmp 50) (.tmp 51) rfl w1.heap.size (.slice (some ⟨w1.heap.size, 0, none⟩) 0 24) 0 ([]) rfl H0.out.1 A1 n1 c1 l1 rfl (HO1.out.1.below H0.out.2) ?_ ?_ ?_
       · omega
       · exact H0.out.2.size
       intro B1 d1 v1 k1 hk1 hown hg hc1
       have HK1 := Lib.hid (And.intro hk1 hc1)
       clear hk1 hc1
       have H1 := Lib.hid (And.intro hown (H0.out.2.grown hg H0.out.2.size (fun k e => (World.ownsRow.lt H0.out.1 k e).1)))
       clear hown hg)
    | (at_builtin
       refine wpList_app_o _ rfl (.tmp 52) (.tmp 53) rfl w1.heap.size (.slice B1 k1 d1) k1 ([] ++ l1) rfl H1.out.1 A2 n2 c2 l2 rfl (HO1.out.2.1.below H1.out.2) ?_ ?_ ?_
       · have := HK1.out.1; omega
       · exact H1.out.2.size
       intro B2 d2 v2 k2 hk2 hown hg hc2
       have HK2 := Lib.hid (And.intro hk2 hc2)
       clear hk2 hc2
       have H2 := Lib.hid (And.intro hown (H1.out.2.grown hg H1.out.2.size (fun k e => (World.ownsRow.lt H1.out.1 k e).1)))
       clear hown hg)
    | (at_builtin
       refine wpList_app_o _ rfl (.tmp 54) (.tmp 55) rfl w1.heap.size (.slice B2 k2 d2) k2 ([] ++ l1 ++ l2) rfl H2.out.1 A3 n3 c3 l3 rfl (HO1.out.2.2.below H2.out.2) ?_ ?_ ?_
       · have := HK1.out.1; have := HK2.out.1; omega
       · exact H2.out.2.size
       intro B3 d3 v3 k3 hk3 hown hg hc3
       have HK3 := Lib.hid (And.intro hk3 hc3)
       clear hk3 hc3
       have H3 := Lib.hid (And.intro hown (H2.out.2.grown hg H2.out.2.size (fun k e => (World.ownsRow.lt H2.out.1 k e).1)))
       clear hown hg))
  refine (few_any B3 k3 d3 _ v3 (by have := HK1.out.1; have := HK2.out.1; have := HK3.out.1; omega) (Oo.on H3.out.1)).mono ?_
  rintro e wx ⟨r, rfl, hr, hw⟩
  have hw := hw.symm
  subst hw
  rcases r with _ | _
  · clear hr
    have HB3 := Lib.hid (HB1.out.trans (H3.out.2.mono HB1.out.size))
    go_wp2
    go_ret
    exact ⟨rfl, HB3.out⟩
  clear hr
  go_wp2_with fail
  have HT0 := Lib.hid (TgW.start (HB1.out.trans (H3.out.2.mono HB1.out.size)) (HO1.out.1.below H3.out.2) (HO1.out.2.1.below H3.out.2) (HO1.out.2.2.below H3.out.2))
  have HAll := Lib.hid ((Oo.on H3.out.1).below (((((Below.refl _ _).alloc (Nat.le_refl _) (.cells #[.int .i64 0] 50)).alloc (by simp) (.cells #[.int .i64 0] 50)).alloc (by simp; omega) (.cells #[.int .i64 0] 50)).alloc (by simp; omega) (.cells #[.int .i64 0] 50)))
  generalize (((v3.alloc _).alloc _).alloc _).alloc _ = W0 at HT0 HAll ⊢
  have hk3 : k3 ≤ 24 := by have := HK1.out.1; have := HK2.out.1; have := HK3.out.1; omega
  have HK := Lib.hid hk3
  have HS24 := Lib.hid hs
  clear hk3 hs b1 b2 b3

  refine (lists_any (cnt (v3.heap.size)) (cnt_steady _) (exT v3.heap.size) B3 k3 d3 ([] ++ l1 ++ l2 ++ l3) _ (by have := HK.out; omega) HT0.out.ex (exT_row2 (by omega) (by omega)) HAll.out).mono ?_
  rintro e W1 ⟨E1, e1, rfl, hce1, har1, g1⟩
  have HI1 := Lib.hid har1
  clear hce1 har1
  have HT1 := Lib.hid (HT0.out.below g1)
  clear HT0 g1
  go_wp2_with fail
  refine (wrap_i (cnt (v3.heap.size)) (fun _ => intL) 0 (exT v3.heap.size) _ askF E1 k3 e1 _ _ (exT_row2 (by omega) (by omega)) HT1.out.ex (by first | omega | (have := HK.out; omega) | (have := HS24.out; omega) | (have := HQ24.out; omega)) (ask_fnc _ _ _) HI1.out).mono ?_
  rintro e W2 ⟨r2, rfl, ha2, g2⟩
  have HX2 := Lib.hid ha2
  obtain ⟨K2, f2, p2, rfl, hE2, _⟩ := ha2
  have HT2 := Lib.hid (HT1.out.below g2)
  clear HT1 g2
  go_wp2_with fail
  clear HAll H0 H1 H2 H3
  refine (lists_any (cnt (v3.heap.size + 1)) (cnt_steady _) (exT v3.heap.size) A1 n1 c1 l1 _ (by first | omega | (have := N1.out; omega)) HT2.out.ex (exT_row2 (by omega) (by omega)) HT2.out.o1).mono ?_
  rintro e W3 ⟨E3, e3, rfl, hce3, har3, g3⟩
  have HI3 := Lib.hid har3
  clear hce3 har3
  have HT3 := Lib.hid (HT2.out.below g3)
  have P_3 := Lib.hid (HX2.out.kx (Kx.below g3))
  clear HT2 HX2 g3
  go_wp2_with fail
  refine (chain_i (cnt (v3.heap.size + 1)) (cnt_steady _) (exT v3.heap.size) E3 n1 e3 _ _ (by first | omega | (have := HK.out; omega) | (have := HS24.out; omega)) HT3.out.ex (exT_row2 (by omega) (by omega)) HI3.out).mono ?_
  rintro e W4 ⟨r4, rfl, ha4, g4⟩
  have HX4 := Lib.hid ha4
  obtain ⟨K4, f4, p4, rfl, _⟩ := ha4
  have HT4 := Lib.hid (HT3.out.below g4)
  have P_4 := Lib.hid (P_3.out.kx (Kx.below g4))
  clear HT3 P_3 g4
  go_wp2_with fail
  refine (lists_any (cnt (v3.heap.size + 1)) (cnt_steady _) (exT v3.heap.size) A2 n2 c2 l2 _ (by first | omega | (have := N2.out; omega)) HT4.out.ex (exT_row2 (by omega) (by omega)) HT4.out.o2).mono ?_
  rintro e W5 ⟨E5, e5, rfl, hce5, har5, g5⟩
  have HI5 := Lib.hid har5
  clear hce5 har5
  have HT5 := Lib.hid (HT4.out.below g5)
  have P_5 := Lib.hid (P_4.out.kx (Kx.below g5))
  have r4_5 := Lib.hid (HX4.out.kx (Kx.below g5))
  clear HT4 P_4 HX4 g5
  go_wp2_with fail
  refine (chain_i (cnt (v3.heap.size + 1)) (cnt_steady _) (exT v3.heap.size) E5 n2 e5 _ _ (by first | omega | (have := HK.out; omega) | (have := HS24.out; omega)) HT5.out.ex (exT_row2 (by omega) (by omega)) HI5.out).mono ?_
  rintro e W6 ⟨r6, rfl, ha6, g6⟩
  have HX6 := Lib.hid ha6
  obtain ⟨K6, f6, p6, rfl, _⟩ := ha6
  have HT6 := Lib.hid (HT5.out.below g6)
  have P_6 := Lib.hid (P_5.out.kx (Kx.below g6))
  have r4_6 := Lib.hid (r4_5.out.kx (Kx.below g6))
  clear HT5 P_5 r4_5 g6
  go_wp2_with fail
  refine (lists_any (cnt (v3.heap.size + 1)) (cnt_steady _) (exT v3.heap.size) A3 n3 c3 l3 _ (by first | omega | (have := N3.out; omega)) HT6.out.ex (exT_row2 (by omega) (by omega)) HT6.out.o3).mono ?_
  rintro e W7 ⟨E7, e7, rfl, hce7, har7, g7⟩
  have HI7 := Lib.hid har7
  clear hce7 har7
  have HT7 := Lib.hid (HT6.out.below g7)
  have P_7 := Lib.hid (P_6.out.kx (Kx.below g7))
  have r4_7 := Lib.hid (r4_6.out.kx (Kx.below g7))
  have r6_7 := Lib.hid (HX6.out.kx (Kx.below g7))
  clear HT6 P_6 r4_6 HX6 g7
  go_wp2_with fail
  refine (chain_i (cnt (v3.heap.size + 1)) (cnt_steady _) (exT v3.heap.size) E7 n3 e7 _ _ (by first | omega | (have := HK.out; omega) | (have := HS24.out; omega)) HT7.out.ex (exT_row2 (by omega) (by omega)) HI7.out).mono ?_
  rintro e W8 ⟨r8, rfl, ha8, g8⟩
  have HX8 := Lib.hid ha8
  obtain ⟨K8, f8, p8, rfl, _⟩ := ha8
  have HT8 := Lib.hid (HT7.out.below g8)
  have P_8 := Lib.hid (P_7.out.kx (Kx.below g8))
  have r4_8 := Lib.hid (r4_7.out.kx (Kx.below g8))
  have r6_8 := Lib.hid (r6_7.out.kx (Kx.below g8))
  clear HT7 P_7 r4_7 r6_7 g8
  go_wp2_with fail
  have HZ8 := Lib.hid (two_ars r6_8.out HX8.out)
  have gz8 : Below W8.heap.size W8 (W8.alloc (.cells #[.func (.func K6) f6 p6, .func (.func K8) f8 p8] 54)) := (Below.refl _ _).alloc (Nat.le_refl _) _
  have HT9 := Lib.hid (HT8.out.below gz8)
  have P_9 := Lib.hid (P_8.out.kx (Kx.below gz8))
  have r4_9 := Lib.hid (r4_8.out.kx (Kx.below gz8))
  clear HT8 P_8 r4_8 gz8
  refine (chain_i (cnt (v3.heap.size + 1)) (cnt_steady _) (exT v3.heap.size) (some ⟨W8.heap.size, 0, none⟩) 2 2 _ _ (by first | omega | (have := HK.out; omega) | (have := HS24.out; omega)) HT9.out.ex (exT_row2 (by omega) (by omega)) HZ8.out).mono ?_
  rintro e W10 ⟨r10, rfl, ha10, g10⟩
  have HX10 := Lib.hid ha10
  obtain ⟨K10, f10, p10, rfl, _⟩ := ha10
  have HT10 := Lib.hid (HT9.out.below g10)
  have P_10 := Lib.hid (P_9.out.kx (Kx.below g10))
  have r4_10 := Lib.hid (r4_9.out.kx (Kx.below g10))
  clear HT9 P_9 r4_9 g10
  go_wp2_with fail
  have HZ10 := Lib.hid (two_ars r4_10.out HX10.out)
  have gz10 : Below W10.heap.size W10 (W10.alloc (.cells #[.func (.func K4) f4 p4, .func (.func K10) f10 p10] 54)) := (Below.refl _ _).alloc (Nat.le_refl _) _
  have HT11 := Lib.hid (HT10.out.below gz10)
  have P_11 := Lib.hid (P_10.out.kx (Kx.below gz10))
  clear HT10 P_10 gz10
  refine (wrap_i (cnt (v3.heap.size + 1)) (fun _ => intL) 0 (exT v3.heap.size) _ askF (some ⟨W10.heap.size, 0, none⟩) 2 2 _ _ (exT_row2 (by omega) (by omega)) HT11.out.ex (by first | omega | (have := HK.out; omega) | (have := HS24.out; omega) | (have := HQ24.out; omega)) (ask_fnc _ _ _) HZ10.out).mono ?_
  rintro e W12 ⟨r12, rfl, ha12, g12⟩
  have HX12 := Lib.hid ha12
  obtain ⟨K12, f12, p12, rfl, hE12, _⟩ := ha12
  have HT12 := Lib.hid (HT11.out.below g12)
  have P_12 := Lib.hid (P_11.out.kx (Kx.below g12))
  clear HT11 P_11 g12
  go_wp2_with fail
  refine (lists_any (cnt (v3.heap.size + 1 + 1)) (cnt_steady _) (exT v3.heap.size) A1 n1 c1 l1 _ (by first | omega | (have := N1.out; omega)) HT12.out.ex (exT_row2 (by omega) (by omega)) HT12.out.o1).mono ?_
  rintro e W13 ⟨E13, e13, rfl, hce13, har13, g13⟩
  have HI13 := Lib.hid har13
  clear hce13 har13
  have HT13 := Lib.hid (HT12.out.below g13)
  have P_13 := Lib.hid (P_12.out.kx (Kx.below g13))
  have Q_13 := Lib.hid (HX12.out.kx (Kx.below g13))
  clear HT12 P_12 HX12 g13
  go_wp2_with fail
  refine (chain_i (cnt (v3.heap.size + 1 + 1)) (cnt_steady _) (exT v3.heap.size) E13 n1 e13 _ _ (by first | omega | (have := HK.out; omega) | (have := HS24.out; omega)) HT13.out.ex (exT_row2 (by omega) (by omega)) HI13.out).mono ?_
  rintro e W14 ⟨r14, rfl, ha14, g14⟩
  have HX14 := Lib.hid ha14
  obtain ⟨K14, f14, p14, rfl, _⟩ := ha14
  have HT14 := Lib.hid (HT13.out.below g14)
  have P_14 := Lib.hid (P_13.out.kx (Kx.below g14))
  have Q_14 := Lib.hid (Q_13.out.kx (Kx.below g14))
  clear HT13 P_13 Q_13 g14
  go_wp2_with fail
  refine (lists_any (cnt (v3.heap.size + 1 + 1)) (cnt_steady _) (exT v3.heap.size) A2 n2 c2 l2 _ (by first | omega | (have := N2.out; omega)) HT14.out.ex (exT_row2 (by omega) (by omega)) HT14.out.o2).mono ?_
  rintro e W15 ⟨E15, e15, rfl, hce15, har15, g15⟩
  have HI15 := Lib.hid har15
  clear hce15 har15
  have HT15 := Lib.hid (HT14.out.below g15)
  have P_15 := Lib.hid (P_14.out.kx (Kx.below g15))
  have Q_15 := Lib.hid (Q_14.out.kx (Kx.below g15))
  have r14_15 := Lib.hid (HX14.out.kx (Kx.below g15))
  clear HT14 P_14 Q_14 HX14 g15
  go_wp2_with fail
  refine (chain_i (cnt (v3.heap.size + 1 + 1)) (cnt_steady _) (exT v3.heap.size) E15 n2 e15 _ _ (by first | omega | (have := HK.out; omega) | (have := HS24.out; omega)) HT15.out.ex (exT_row2 (by omega) (by omega)) HI15.out).mono ?_
  rintro e W16 ⟨r16, rfl, ha16, g16⟩
  have HX16 := Lib.hid ha16
  obtain ⟨K16, f16, p16, rfl, _⟩ := ha16
  have HT16 := Lib.hid (HT15.out.below g16)
  have P_16 := Lib.hid (P_15.out.kx (Kx.below g16))
  have Q_16 := Lib.hid (Q_15.out.kx (Kx.below g16))
  have r14_16 := Lib.hid (r14_15.out.kx (Kx.below g16))
  clear HT15 P_15 Q_15 r14_15 g16
  go_wp2_with fail
  have HZ16 := Lib.hid (two_ars r14_16.out HX16.out)
  have gz16 : Below W16.heap.size W16 (W16.alloc (.cells #[.func (.func K14) f14 p14, .func (.func K16) f16 p16] 54)) := (Below.refl _ _).alloc (Nat.le_refl _) _
  have HT17 := Lib.hid (HT16.out.below gz16)
  have P_17 := Lib.hid (P_16.out.kx (Kx.below gz16))
  have Q_17 := Lib.hid (Q_16.out.kx (Kx.below gz16))
  clear HT16 P_16 Q_16 gz16
  refine (chain_i (cnt (v3.heap.size + 1 + 1)) (cnt_steady _) (exT v3.heap.size) (some ⟨W16.heap.size, 0, none⟩) 2 2 _ _ (by first | omega | (have := HK.out; omega) | (have := HS24.out; omega)) HT17.out.ex (exT_row2 (by omega) (by omega)) HZ16.out).mono ?_
  rintro e W18 ⟨r18, rfl, ha18, g18⟩
  have HX18 := Lib.hid ha18
  obtain ⟨K18, f18, p18, rfl, _⟩ := ha18
  have HT18 := Lib.hid (HT17.out.below g18)
  have P_18 := Lib.hid (P_17.out.kx (Kx.below g18))
  have Q_18 := Lib.hid (Q_17.out.kx (Kx.below g18))
  clear HT17 P_17 Q_17 g18
  go_wp2_with fail
  refine (lists_any (cnt (v3.heap.size + 1 + 1)) (cnt_steady _) (exT v3.heap.size) A3 n3 c3 l3 _ (by first | omega | (have := N3.out; omega)) HT18.out.ex (exT_row2 (by omega) (by omega)) HT18.out.o3).mono ?_
  rintro e W19 ⟨E19, e19, rfl, hce19, har19, g19⟩
  have HI19 := Lib.hid har19
  clear hce19 har19
  have HT19 := Lib.hid (HT18.out.below g19)
  have P_19 := Lib.hid (P_18.out.kx (Kx.below g19))
  have Q_19 := Lib.hid (Q_18.out.kx (Kx.below g19))
  have r18_19 := Lib.hid (HX18.out.kx (Kx.below g19))
  clear HT18 P_18 Q_18 HX18 g19
  go_wp2_with fail
  refine (chain_i (cnt (v3.heap.size + 1 + 1)) (cnt_steady _) (exT v3.heap.size) E19 n3 e19 _ _ (by first | omega | (have := HK.out; omega) | (have := HS24.out; omega)) HT19.out.ex (exT_row2 (by omega) (by omega)) HI19.out).mono ?_
  rintro e W20 ⟨r20, rfl, ha20, g20⟩
  have HX20 := Lib.hid ha20
  obtain ⟨K20, f20, p20, rfl, _⟩ := ha20
  have HT20 := Lib.hid (HT19.out.below g20)
  have P_20 := Lib.hid (P_19.out.kx (Kx.below g20))
  have Q_20 := Lib.hid (Q_19.out.kx (Kx.below g20))
  have r18_20 := Lib.hid (r18_19.out.kx (Kx.below g20))
  clear HT19 P_19 Q_19 r18_19 g20
  go_wp2_with fail
  have HZ20 := Lib.hid (two_ars r18_20.out HX20.out)
  have gz20 : Below W20.heap.size W20 (W20.alloc (.cells #[.func (.func K18) f18 p18, .func (.func K20) f20 p20] 54)) := (Below.refl _ _).alloc (Nat.le_refl _) _
  have HT21 := Lib.hid (HT20.out.below gz20)
  have P_21 := Lib.hid (P_20.out.kx (Kx.below gz20))
  have Q_21 := Lib.hid (Q_20.out.kx (Kx.below gz20))
  clear HT20 P_20 Q_20 gz20
  refine (wrap_i (cnt (v3.heap.size + 1 + 1)) (fun _ => intL) 0 (exT v3.heap.size) _ askF (some ⟨W20.heap.size, 0, none⟩) 2 2 _ _ (exT_row2 (by omega) (by omega)) HT21.out.ex (by first | omega | (have := HK.out; omega) | (have := HS24.out; omega) | (have := HQ24.out; omega)) (ask_fnc _ _ _) HZ20.out).mono ?_
  rintro e W22 ⟨r22, rfl, ha22, g22⟩
  have HX22 := Lib.hid ha22
  obtain ⟨K22, f22, p22, rfl, hE22, _⟩ := ha22
  have HT22 := Lib.hid (HT21.out.below g22)
  have P_22 := Lib.hid (P_21.out.kx (Kx.below g22))
  have Q_22 := Lib.hid (Q_21.out.kx (Kx.below g22))
  clear HT21 P_21 Q_21 g22
  have oo2 := HT22.out.o2
  have oo3 := HT22.out.o3
  have HO2 := Lib.hid (And.intro oo2 oo3)
  clear oo2 oo3
  go_wp2_with (first
    | (at_make
       refine wpList_mk_o _ rfl rfl ?_
       intro wm2 hown hb hlt
       have M0 := Lib.hid (And.intro hown hb)
       clear hown hb hlt)
    | (at_builtin
       refine wpList_app_o _ rfl (.tmp 105) (.tmp 106) rfl W22.heap.size (.slice (some ⟨W22.heap.size, 0, none⟩) 0 24) 0 [] rfl M0.out.1 A2 n2 c2 l2 rfl (HO2.out.1.below M0.out.2) ?_ ?_ ?_
       · have := N2.out; omega
       · exact M0.out.2.size
       intro G1 y1 u1 q1 hq1 hown hg hd1
       have HQ1 := Lib.hid (And.intro hq1 hd1)
       have M1 := Lib.hid (And.intro hown (M0.out.2.grown hg M0.out.2.size (fun k e => (World.ownsRow.lt M0.out.1 k e).1)))
       clear hown hg hq1 hd1)
    | (at_builtin
       refine wpList_app_o _ rfl (.tmp 107) (.tmp 108) rfl W22.heap.size (.slice G1 q1 y1) q1 ([] ++ l2) rfl M1.out.1 A3 n3 c3 l3 rfl (HO2.out.2.below M1.out.2) ?_ ?_ ?_
       · have := HQ1.out.1; have := HS24.out; omega
       · exact M1.out.2.size
       intro G2 y2 u2 q2 hq2 hown hg hd2
       have HQ2 := Lib.hid (And.intro hq2 hd2)
       have M2 := Lib.hid (And.intro hown (M1.out.2.grown hg M1.out.2.size (fun k e => (World.ownsRow.lt M1.out.1 k e).1)))
       clear hown hg hq2 hd2))
  have gm := M2.out.2
  have hq24 : q2 ≤ 24 := by have := HQ1.out.1; have := HQ2.out.1; have := HS24.out; omega
  have HQ24 := Lib.hid hq24
  clear hq24

  have HT23 := Lib.hid (HT22.out.below gm)
  have P_23 := Lib.hid (P_22.out.kx (Kx.below gm))
  have Q_23 := Lib.hid (Q_22.out.kx (Kx.below gm))
  have R_23 := Lib.hid (HX22.out.kx (Kx.below gm))
  clear HT22 P_22 Q_22 HX22 gm
  refine (lists_any (cnt (v3.heap.size + 1 + 1 + 1)) (cnt_steady _) (exT v3.heap.size) G2 q2 y2 ([] ++ l2 ++ l3) _ (by have := HQ24.out; omega) HT23.out.ex (exT_row2 (by omega) (by omega)) (Oo.on M2.out.1)).mono ?_
  rintro e W24 ⟨E24, e24, rfl, hce24, har24, g24⟩
  have HI24 := Lib.hid har24
  clear hce24 har24
  have HT24 := Lib.hid (HT23.out.below g24)
  have P_24 := Lib.hid (P_23.out.kx (Kx.below g24))
  have Q_24 := Lib.hid (Q_23.out.kx (Kx.below g24))
  have R_24 := Lib.hid (R_23.out.kx (Kx.below g24))
  clear HT23 P_23 Q_23 R_23 g24
  go_wp2_with fail
  refine (wrap_i (cnt (v3.heap.size + 1 + 1 + 1)) (fun _ => intL) 0 (exT v3.heap.size) _ askF E24 q2 e24 _ _ (exT_row2 (by omega) (by omega)) HT24.out.ex (by first | omega | (have := HK.out; omega) | (have := HS24.out; omega) | (have := HQ24.out; omega)) (ask_fnc _ _ _) HI24.out).mono ?_
  rintro e W25 ⟨r25, rfl, ha25, g25⟩
  have HX25 := Lib.hid ha25
  obtain ⟨K25, f25, p25, rfl, hE25, _⟩ := ha25
  have HT25 := Lib.hid (HT24.out.below g25)
  have P_25 := Lib.hid (P_24.out.kx (Kx.below g25))
  have Q_25 := Lib.hid (Q_24.out.kx (Kx.below g25))
  have R_25 := Lib.hid (R_24.out.kx (Kx.below g25))
  clear HT24 P_24 Q_24 R_24 g25
  go_wp2_with fail
  refine (lists_any (cnt (v3.heap.size + 1 + 1 + 1)) (cnt_steady _) (exT v3.heap.size) A1 n1 c1 l1 _ (by have := N1.out; omega) HT25.out.ex (exT_row2 (by omega) (by omega)) HT25.out.o1).mono ?_
  rintro e W26 ⟨E26, e26, rfl, hce26, har26, g26⟩
  have HI26 := Lib.hid har26
  clear hce26 har26
  have HT26 := Lib.hid (HT25.out.below g26)
  have P_26 := Lib.hid (P_25.out.kx (Kx.below g26))
  have Q_26 := Lib.hid (Q_25.out.kx (Kx.below g26))
  have R_26 := Lib.hid (R_25.out.kx (Kx.below g26))
  have U_26 := Lib.hid (HX25.out.kx (Kx.below g26))
  clear HT25 P_25 Q_25 R_25 HX25 g26
  go_wp2_with fail
  refine (wrap_i (cnt (v3.heap.size + 1 + 1 + 1)) (fun _ => intL) 0 (exT v3.heap.size) _ _ E26 n1 e26 _ _ (exT_row2 (by omega) (by omega)) HT26.out.ex (by first | omega | (have := HK.out; omega) | (have := HS24.out; omega) | (have := HQ24.out; omega)) U_26.out HI26.out).mono ?_
  rintro e W27 ⟨r27, rfl, ha27, g27⟩
  have HX27 := Lib.hid ha27
  obtain ⟨K27, f27, p27, rfl, hE27, _⟩ := ha27
  have HT27 := Lib.hid (HT26.out.below g27)
  have P_27 := Lib.hid (P_26.out.kx (Kx.below g27))
  have Q_27 := Lib.hid (Q_26.out.kx (Kx.below g27))
  have R_27 := Lib.hid (R_26.out.kx (Kx.below g27))
  have U_27 := Lib.hid (U_26.out.kx (Kx.below g27))
  clear HT26 P_26 Q_26 R_26 U_26 g27
  have hqp := fun W => eq_nf W (.func K2) f2 p2
  have hqq := fun W => eq_nf W (.func K12) f12 p12
  have hqr := fun W => eq_nf W (.func K22) f22 p22
  have hqs := fun W => eq_nf W (.func K27) f27 p27
  obtain ⟨FF, hFF⟩ : ∃ FF, wrapS (([] ++ l1 ++ l2 ++ l3).map oneF) askF = FF := ⟨_, rfl⟩
  have FP := P_27.out
  have FQ := Q_27.out
  have FR := R_27.out
  have FS := HX27.out
  rw [hFF] at FP
  rw [tog_q, hFF] at FQ
  rw [tog_r, hFF] at FR
  rw [tog_s, hFF] at FS
  have HFQ := Lib.hid FQ
  have HFR := Lib.hid FR
  have HFS := Lib.hid FS
  obtain ⟨⟨yy, mm⟩, hyy⟩ : ∃ y, FF x 0 = y := ⟨_, rfl⟩
  have HY := Lib.hid hyy
  have CP := Lib.hid (tg_cally (i := 0) x yy mm hyy (by omega) FP HT27.out.j rfl)
  have HBel := Lib.hid (And.intro HT27.out.bel HT27.out.lt)
  have hEp : ∀ args w, (callFunc K2 args).run Tryz.prog w = .ok (.enter K2 args) w := hE2
  have hEq : ∀ args w, (callFunc K12 args).run Tryz.prog w = .ok (.enter K12 args) w := hE12
  have hEr : ∀ args w, (callFunc K22 args).run Tryz.prog w = .ok (.enter K22 args) w := hE22
  have hEs : ∀ args w, (callFunc K27 args).run Tryz.prog w = .ok (.enter K27 args) w := hE27
  clear FP FQ FR FS hFF hyy P_27 Q_27 R_27 HX27
  go_wp2_with fail
  refine CP.out.mono ?_
  rintro e w5 ⟨rfl, HJ⟩
  have CQ := Lib.hid (tg_cally (i := 1) x yy mm HY.out (by omega) HFQ.out HJ.out.drew (by simp))
  clear CP hqp hqq hqr hqs
  go_wp2_with fail
  have k5 : w5.drew.cell? ⟨v3.heap.size, 0, none⟩ = some (.int .i64 mm) := tg_cell0 HJ.out.drew (by simp)
  have k5b : w5.cell? ⟨v3.heap.size, 0, none⟩ = some (.int .i64 mm) := tg_cell0 HJ.out (by simp)
  refine wp_region_noPanic ?_
  refine wp_region_held_drew (S := fun w' => w'.cell? ⟨v3.heap.size, 0, none⟩ = some (.int .i64 mm)) (by kernel_rfl) k5 (fun hHeld => ?_)
  refine wpAnyH_take (i := 0) (oi := { dst := some 132, op := Op.move (Operand.tmp 16), type := 51, pos := "law.go:134", after := #[], guard := none }) (v := ?_) rfl (by kernel_rfl) (by kernel_rfl) (by kernel_rfl) (fun _ _ _ h => h) (Or.inl ⟨by rfl, ?_⟩) hHeld ?_
  rotate_left
  · intro w hSw; (try dsimp only at hSw); (try go_split_ands); go_simp; (first | done | with_reducible rfl)
  (try simp only [Act.put, List.setIfInBounds_toArray, List.set_cons_zero, List.set_cons_succ])
  refine wpAnyH_take (i := 1) (oi := { dst := some 133, op := Op.move (Operand.tmp 3), type := 3, pos := "law.go:134", after := #[], guard := none }) (v := ?_) rfl (by kernel_rfl) (by kernel_rfl) (by kernel_rfl) (fun _ _ _ h => h) (Or.inl ⟨by rfl, ?_⟩) hHeld ?_
  rotate_left
  · intro w hSw; (try dsimp only at hSw); (try go_split_ands); go_simp; (first | done | with_reducible rfl)
  (try simp only [Act.put, List.setIfInBounds_toArray, List.set_cons_zero, List.set_cons_succ])
  refine wpAnyH_take (i := 3) (oi := { dst := some 135, op := Op.move (Operand.tmp 19), type := 3, pos := "law.go:134", after := #[], guard := none }) (v := ?_) rfl (by kernel_rfl) (by kernel_rfl) (by kernel_rfl) (fun _ _ _ h => h) (Or.inl ⟨by rfl, ?_⟩) hHeld ?_
  rotate_left
  · intro w hSw; (try dsimp only at hSw); (try go_split_ands); go_simp; (first | done | with_reducible rfl)
  (try simp only [Act.put, List.setIfInBounds_toArray, List.set_cons_zero, List.set_cons_succ])
  refine wpAnyH_ready (rs := [2]) (by kernel_rfl) (by simp) ?_
  refine AllReadyH.cons (o := { dst := some 134, op := Op.call { callee := Callee.value (Operand.tmp 132), args := #[Operand.tmp 133], argTypes := #[3] }, type := 3, pos := "law.go:134", after := #[{ on := 0, ground := Ground.data }, { on := 1, ground := Ground.data }], guard := none }) rfl (fun K hK => ?_) AllReadyH.nil
  go_simp
  refine CQ.out.mono ?_
  rintro e w6 ⟨rfl, HJ6⟩
  have k6 := tg_cell0 HJ6.out (mm := mm) (by simp)
  have CR := Lib.hid (tg_cally (i := 2) x yy mm HY.out (by omega) HFR.out HJ6.out (by simp))
  (try go_simp)
  refine hK.out _ _ k6 (fun hHeld2 => ?_)
  clear hHeld
  have hHeld := hHeld2
  clear hHeld2 hK K
  (try simp only [Act.put, List.setIfInBounds_toArray, List.set_cons_zero, List.set_cons_succ])
  refine wpAnyH_take (i := 4) (oi := { dst := some 136, op := Op.binOp BinOp.eql 3 (Operand.tmp 134) (Operand.tmp 135) 3, type := 4, pos := "law.go:134", after := #[{ on := 2, ground := Ground.data }, { on := 3, ground := Ground.data }], guard := none }) (v := ?_) rfl (by kernel_rfl) (by kernel_rfl) (by kernel_rfl) (fun _ _ _ h => h) (Or.inl ⟨by rfl, ?_⟩) hHeld ?_
  rotate_left
  · intro w hSw; (try dsimp only at hSw); (try go_split_ands); go_simp; (first | done | with_reducible rfl)
  (try simp only [Act.put, List.setIfInBounds_toArray, List.set_cons_zero, List.set_cons_succ])
  refine wpAnyH_take (i := 5) (oi := { dst := some 137, op := Op.move (Operand.tmp 136), type := 4, pos := "law.go:134", after := #[{ on := 4, ground := Ground.data }, { on := 2, ground := Ground.chain }], guard := none }) (v := ?_) rfl (by kernel_rfl) (by kernel_rfl) (by kernel_rfl) (fun _ _ _ h => h) (Or.inl ⟨by rfl, ?_⟩) hHeld ?_
  rotate_left
  · intro w hSw; (try dsimp only at hSw); (try go_split_ands); go_simp; (first | done | with_reducible rfl)
  (try simp only [Act.put, List.setIfInBounds_toArray, List.set_cons_zero, List.set_cons_succ])
  refine wpAnyH_take (i := 6) (oi := { dst := some 138, op := Op.move (Operand.tmp 17), type := 51, pos := "law.go:134", after := #[{ on := 5, ground := Ground.guard }], guard := some (5, true) }) (v := ?_) rfl (by kernel_rfl) (by kernel_rfl) (by kernel_rfl) (fun _ _ _ h => h) (Or.inl ⟨by rfl, ?_⟩) hHeld ?_
  rotate_left
  · intro w hSw; (try dsimp only at hSw); (try go_split_ands); go_simp; (first | done | with_reducible rfl)
  (try simp only [Act.put, List.setIfInBounds_toArray, List.set_cons_zero, List.set_cons_succ])
  refine wpAnyH_take (i := 7) (oi := { dst := some 139, op := Op.move (Operand.tmp 3), type := 3, pos := "law.go:134", after := #[{ on := 5, ground := Ground.guard }], guard := some (5, true) }) (v := ?_) rfl (by kernel_rfl) (by kernel_rfl) (by kernel_rfl) (fun _ _ _ h => h) (Or.inl ⟨by rfl, ?_⟩) hHeld ?_
  rotate_left
  · intro w hSw; (try dsimp only at hSw); (try go_split_ands); go_simp; (first | done | with_reducible rfl)
  (try simp only [Act.put, List.setIfInBounds_toArray, List.set_cons_zero, List.set_cons_succ])
  refine wpAnyH_take (i := 9) (oi := { dst := some 141, op := Op.move (Operand.tmp 19), type := 3, pos := "law.go:134", after := #[{ on := 5, ground := Ground.guard }], guard := some (5, true) }) (v := ?_) rfl (by kernel_rfl) (by kernel_rfl) (by kernel_rfl) (fun _ _ _ h => h) (Or.inl ⟨by rfl, ?_⟩) hHeld ?_
  rotate_left
  · intro w hSw; (try dsimp only at hSw); (try go_split_ands); go_simp; (first | done | with_reducible rfl)
  (try simp only [Act.put, List.setIfInBounds_toArray, List.set_cons_zero, List.set_cons_succ])
  refine wpAnyH_ready (rs := [8]) (by kernel_rfl) (by simp) ?_
  refine AllReadyH.cons (o := { dst := some 140, op := Op.call { callee := Callee.value (Operand.tmp 138), args := #[Operand.tmp 139], argTypes := #[3] }, type := 3, pos := "law.go:134", after := #[{ on := 6, ground := Ground.data }, { on := 7, ground := Ground.data }, { on := 5, ground := Ground.chain }, { on := 5, ground := Ground.guard }], guard := some (5, true) }) rfl (fun K hK => ?_) AllReadyH.nil
  go_simp
  refine CR.out.mono ?_
  rintro e w7 ⟨rfl, HJ7⟩
  have k7 := tg_cell0 HJ7.out (mm := mm) (by simp)
  have CS := Lib.hid (tg_cally (i := 3) x yy mm HY.out (by omega) HFS.out HJ7.out (by simp))
  (try go_simp)
  refine hK.out _ _ k7 (fun hHeld2 => ?_)
  clear hHeld
  have hHeld := hHeld2
  clear hHeld2 hK K
  (try simp only [Act.put, List.setIfInBounds_toArray, List.set_cons_zero, List.set_cons_succ])
  refine wpAnyH_take (i := 10) (oi := { dst := some 142, op := Op.binOp BinOp.eql 3 (Operand.tmp 140) (Operand.tmp 141) 3, type := 4, pos := "law.go:134", after := #[{ on := 8, ground := Ground.data }, { on := 9, ground := Ground.data }, { on := 5, ground := Ground.guard }], guard := some (5, true) }) (v := ?_) rfl (by kernel_rfl) (by kernel_rfl) (by kernel_rfl) (fun _ _ _ h => h) (Or.inl ⟨by rfl, ?_⟩) hHeld ?_
  rotate_left
  · intro w hSw; (try dsimp only at hSw); (try go_split_ands); go_simp; (first | done | with_reducible rfl)
  (try simp only [Act.put, List.setIfInBounds_toArray, List.set_cons_zero, List.set_cons_succ])
  refine wpAnyH_take (i := 11) (oi := { dst := some 143, op := Op.pick (Operand.tmp 137) (Operand.tmp 142) (Operand.const (Value.bool false)), type := 4, pos := "law.go:134", after := #[{ on := 5, ground := Ground.data }, { on := 10, ground := Ground.data }], guard := none }) (v := ?_) rfl (by kernel_rfl) (by kernel_rfl) (by kernel_rfl) (fun _ _ _ h => h) (Or.inl ⟨by rfl, ?_⟩) hHeld ?_
  rotate_left
  · intro w hSw; (try dsimp only at hSw); (try go_split_ands); go_simp; (first | done | with_reducible rfl)
  (try simp only [Act.put, List.setIfInBounds_toArray, List.set_cons_zero, List.set_cons_succ])
  refine wpAnyH_take (i := 12) (oi := { dst := some 144, op := Op.move (Operand.tmp 143), type := 4, pos := "law.go:134", after := #[{ on := 11, ground := Ground.data }, { on := 8, ground := Ground.chain }], guard := none }) (v := ?_) rfl (by kernel_rfl) (by kernel_rfl) (by kernel_rfl) (fun _ _ _ h => h) (Or.inl ⟨by rfl, ?_⟩) hHeld ?_
  rotate_left
  · intro w hSw; (try dsimp only at hSw); (try go_split_ands); go_simp; (first | done | with_reducible rfl)
  (try simp only [Act.put, List.setIfInBounds_toArray, List.set_cons_zero, List.set_cons_succ])
  refine wpAnyH_take (i := 13) (oi := { dst := some 145, op := Op.move (Operand.tmp 18), type := 51, pos := "law.go:134", after := #[{ on := 12, ground := Ground.guard }], guard := some (12, true) }) (v := ?_) rfl (by kernel_rfl) (by kernel_rfl) (by kernel_rfl) (fun _ _ _ h => h) (Or.inl ⟨by rfl, ?_⟩) hHeld ?_
  rotate_left
  · intro w hSw; (try dsimp only at hSw); (try go_split_ands); go_simp; (first | done | with_reducible rfl)
  (try simp only [Act.put, List.setIfInBounds_toArray, List.set_cons_zero, List.set_cons_succ])
  refine wpAnyH_take (i := 14) (oi := { dst := some 146, op := Op.move (Operand.tmp 3), type := 3, pos := "law.go:134", after := #[{ on := 12, ground := Ground.guard }], guard := some (12, true) }) (v := ?_) rfl (by kernel_rfl) (by kernel_rfl) (by kernel_rfl) (fun _ _ _ h => h) (Or.inl ⟨by rfl, ?_⟩) hHeld ?_
  rotate_left
  · intro w hSw; (try dsimp only at hSw); (try go_split_ands); go_simp; (first | done | with_reducible rfl)
  (try simp only [Act.put, List.setIfInBounds_toArray, List.set_cons_zero, List.set_cons_succ])
  refine wpAnyH_take (i := 16) (oi := { dst := some 148, op := Op.move (Operand.tmp 19), type := 3, pos := "law.go:134", after := #[{ on := 12, ground := Ground.guard }], guard := some (12, true) }) (v := ?_) rfl (by kernel_rfl) (by kernel_rfl) (by kernel_rfl) (fun _ _ _ h => h) (Or.inl ⟨by rfl, ?_⟩) hHeld ?_
  rotate_left
  · intro w hSw; (try dsimp only at hSw); (try go_split_ands); go_simp; (first | done | with_reducible rfl)
  (try simp only [Act.put, List.setIfInBounds_toArray, List.set_cons_zero, List.set_cons_succ])
  refine wpAnyH_ready (rs := [15]) (by kernel_rfl) (by simp) ?_
  refine AllReadyH.cons (o := { dst := some 147, op := Op.call { callee := Callee.value (Operand.tmp 145), args := #[Operand.tmp 146], argTypes := #[3] }, type := 3, pos := "law.go:134", after := #[{ on := 13, ground := Ground.data }, { on := 14, ground := Ground.data }, { on := 12, ground := Ground.chain }, { on := 12, ground := Ground.guard }], guard := some (12, true) }) rfl (fun K hK => ?_) AllReadyH.nil
  go_simp
  refine CS.out.mono ?_
  rintro e w8 ⟨rfl, HJ8⟩
  obtain ⟨z0, z1, z2, z3⟩ := tg_cells HJ8.out tg_all
  have HB8 := Lib.hid (HJ8.out.bel HBel.out.1 HBel.out.2)
  (try go_simp)
  refine hK.out _ _ z0 (fun hHeld2 => ?_)
  clear hHeld
  have hHeld := hHeld2
  clear hHeld2 hK K
  (try simp only [Act.put, List.setIfInBounds_toArray, List.set_cons_zero, List.set_cons_succ])
  refine wpAnyH_imp (S' := fun w' => w'.cell? ⟨v3.heap.size, 0, none⟩ = some (.int .i64 mm) ∧ w'.cell? ⟨v3.heap.size + 1, 0, none⟩ = some (.int .i64 mm) ∧ w'.cell? ⟨v3.heap.size + 1 + 1, 0, none⟩ = some (.int .i64 mm) ∧ w'.cell? ⟨v3.heap.size + 1 + 1 + 1, 0, none⟩ = some (.int .i64 mm)) (fun w h => h.1) ?_
  clear hHeld
  have hHeld : w8.cell? ⟨v3.heap.size, 0, none⟩ = some (.int .i64 mm) ∧ w8.cell? ⟨v3.heap.size + 1, 0, none⟩ = some (.int .i64 mm) ∧ w8.cell? ⟨v3.heap.size + 1 + 1, 0, none⟩ = some (.int .i64 mm) ∧ w8.cell? ⟨v3.heap.size + 1 + 1 + 1, 0, none⟩ = some (.int .i64 mm) := ⟨z0, z1, z2, z3⟩
  refine wpAnyH_take (i := 17) (oi := { dst := some 149, op := Op.binOp BinOp.eql 3 (Operand.tmp 147) (Operand.tmp 148) 3, type := 4, pos := "law.go:134", after := #[{ on := 15, ground := Ground.data }, { on := 16, ground := Ground.data }, { on := 12, ground := Ground.guard }], guard := some (12, true) }) (v := ?_) rfl (by kernel_rfl) (by kernel_rfl) (by kernel_rfl) (fun _ _ _ h => h) (Or.inl ⟨by rfl, ?_⟩) hHeld ?_
  rotate_left
  · intro w hSw; (try dsimp only at hSw); (try go_split_ands); go_simp; (first | done | with_reducible rfl)
  (try simp only [Act.put, List.setIfInBounds_toArray, List.set_cons_zero, List.set_cons_succ])
  refine wpAnyH_take (i := 18) (oi := { dst := some 150, op := Op.pick (Operand.tmp 144) (Operand.tmp 149) (Operand.const (Value.bool false)), type := 4, pos := "law.go:134", after := #[{ on := 12, ground := Ground.data }, { on := 17, ground := Ground.data }], guard := none }) (v := ?_) rfl (by kernel_rfl) (by kernel_rfl) (by kernel_rfl) (fun _ _ _ h => h) (Or.inl ⟨by rfl, ?_⟩) hHeld ?_
  rotate_left
  · intro w hSw; (try dsimp only at hSw); (try go_split_ands); go_simp; (first | done | with_reducible rfl)
  (try simp only [Act.put, List.setIfInBounds_toArray, List.set_cons_zero, List.set_cons_succ])
  refine wpAnyH_take (i := 19) (oi := { dst := some 151, op := Op.move (Operand.tmp 150), type := 4, pos := "law.go:134", after := #[{ on := 18, ground := Ground.data }, { on := 15, ground := Ground.chain }], guard := none }) (v := ?_) rfl (by kernel_rfl) (by kernel_rfl) (by kernel_rfl) (fun _ _ _ h => h) (Or.inl ⟨by rfl, ?_⟩) hHeld ?_
  rotate_left
  · intro w hSw; (try dsimp only at hSw); (try go_split_ands); go_simp; (first | done | with_reducible rfl)
  (try simp only [Act.put, List.setIfInBounds_toArray, List.set_cons_zero, List.set_cons_succ])
  refine wpAnyH_take (i := 20) (oi := { dst := some 152, op := Op.move (Operand.tmp 11), type := 48, pos := "law.go:134", after := #[{ on := 19, ground := Ground.guard }], guard := some (19, true) }) (v := ?_) rfl (by kernel_rfl) (by kernel_rfl) (by kernel_rfl) (fun _ _ _ h => h) (Or.inl ⟨by rfl, ?_⟩) hHeld ?_
  rotate_left
  · intro w hSw; (try dsimp only at hSw); (try go_split_ands); go_simp; (first | done | with_reducible rfl)
  (try simp only [Act.put, List.setIfInBounds_toArray, List.set_cons_zero, List.set_cons_succ])
  refine wpAnyH_take (i := 21) (oi := { dst := some 153, op := Op.nilCheck (Operand.tmp 152), type := 0, pos := "law.go:134", after := #[{ on := 20, ground := Ground.data }, { on := 19, ground := Ground.guard }], guard := some (19, true) }) (v := ?_) rfl (by kernel_rfl) (by kernel_rfl) (by kernel_rfl) (fun _ _ _ h => h) (Or.inl ⟨by rfl, ?_⟩) hHeld ?_
  rotate_left
  · intro w hSw; (try dsimp only at hSw); (try go_split_ands); go_simp; (first | done | with_reducible rfl)
  (try simp only [Act.put, List.setIfInBounds_toArray, List.set_cons_zero, List.set_cons_succ])
  refine wpAnyH_take (i := 22) (oi := { dst := some 154, op := Op.fieldAddr 50 (Operand.tmp 153) 0, type := 0, pos := "law.go:134", after := #[{ on := 21, ground := Ground.data }, { on := 19, ground := Ground.guard }], guard := some (19, true) }) (v := ?_) rfl (by kernel_rfl) (by kernel_rfl) (by kernel_rfl) (fun _ _ _ h => h) (Or.inl ⟨by rfl, ?_⟩) hHeld ?_
  rotate_left
  · intro w hSw; (try dsimp only at hSw); (try go_split_ands); go_simp; (first | done | with_reducible rfl)
  (try simp only [Act.put, List.setIfInBounds_toArray, List.set_cons_zero, List.set_cons_succ])
  refine wpAnyH_take (i := 23) (oi := { dst := some 155, op := Op.load 3 (Operand.tmp 154), type := 3, pos := "law.go:134", after := #[{ on := 22, ground := Ground.data }, { on := 19, ground := Ground.guard }], guard := some (19, true) }) (v := ?_) rfl (by kernel_rfl) (by kernel_rfl) (by kernel_rfl) (fun _ _ _ h => h) (Or.inl ⟨by rfl, ?_⟩) hHeld ?_
  rotate_left
  · intro w hSw; (try dsimp only at hSw); (try go_split_ands); go_simp; (first | done | with_reducible rfl)
  (try simp only [Act.put, List.setIfInBounds_toArray, List.set_cons_zero, List.set_cons_succ])
  refine wpAnyH_take (i := 24) (oi := { dst := some 156, op := Op.move (Operand.tmp 12), type := 48, pos := "law.go:134", after := #[{ on := 19, ground := Ground.guard }], guard := some (19, true) }) (v := ?_) rfl (by kernel_rfl) (by kernel_rfl) (by kernel_rfl) (fun _ _ _ h => h) (Or.inl ⟨by rfl, ?_⟩) hHeld ?_
  rotate_left
  · intro w hSw; (try dsimp only at hSw); (try go_split_ands); go_simp; (first | done | with_reducible rfl)
  (try simp only [Act.put, List.setIfInBounds_toArray, List.set_cons_zero, List.set_cons_succ])
  refine wpAnyH_take (i := 25) (oi := { dst := some 157, op := Op.nilCheck (Operand.tmp 156), type := 0, pos := "law.go:134", after := #[{ on := 24, ground := Ground.data }, { on := 19, ground := Ground.guard }], guard := some (19, true) }) (v := ?_) rfl (by kernel_rfl) (by kernel_rfl) (by kernel_rfl) (fun _ _ _ h => h) (Or.inl ⟨by rfl, ?_⟩) hHeld ?_
  rotate_left
  · intro w hSw; (try dsimp only at hSw); (try go_split_ands); go_simp; (first | done | with_reducible rfl)
  (try simp only [Act.put, List.setIfInBounds_toArray, List.set_cons_zero, List.set_cons_succ])
  refine wpAnyH_take (i := 26) (oi := { dst := some 158, op := Op.fieldAddr 50 (Operand.tmp 157) 0, type := 0, pos := "law.go:134", after := #[{ on := 25, ground := Ground.data }, { on := 19, ground := Ground.guard }], guard := some (19, true) }) (v := ?_) rfl (by kernel_rfl) (by kernel_rfl) (by kernel_rfl) (fun _ _ _ h => h) (Or.inl ⟨by rfl, ?_⟩) hHeld ?_
  rotate_left
  · intro w hSw; (try dsimp only at hSw); (try go_split_ands); go_simp; (first | done | with_reducible rfl)
  (try simp only [Act.put, List.setIfInBounds_toArray, List.set_cons_zero, List.set_cons_succ])
  refine wpAnyH_take (i := 27) (oi := { dst := some 159, op := Op.load 3 (Operand.tmp 158), type := 3, pos := "law.go:134", after := #[{ on := 26, ground := Ground.data }, { on := 19, ground := Ground.guard }], guard := some (19, true) }) (v := ?_) rfl (by kernel_rfl) (by kernel_rfl) (by kernel_rfl) (fun _ _ _ h => h) (Or.inl ⟨by rfl, ?_⟩) hHeld ?_
  rotate_left
  · intro w hSw; (try dsimp only at hSw); (try go_split_ands); go_simp; (first | done | with_reducible rfl)
  (try simp only [Act.put, List.setIfInBounds_toArray, List.set_cons_zero, List.set_cons_succ])
  refine wpAnyH_take (i := 28) (oi := { dst := some 160, op := Op.binOp BinOp.eql 3 (Operand.tmp 155) (Operand.tmp 159) 3, type := 4, pos := "law.go:134", after := #[{ on := 23, ground := Ground.data }, { on := 27, ground := Ground.data }, { on := 19, ground := Ground.guard }], guard := some (19, true) }) (v := ?_) rfl (by kernel_rfl) (by kernel_rfl) (by kernel_rfl) (fun _ _ _ h => h) (Or.inl ⟨by rfl, ?_⟩) hHeld ?_
  rotate_left
  · intro w hSw; (try dsimp only at hSw); (try go_split_ands); go_simp; (first | done | with_reducible rfl)
  (try simp only [Act.put, List.setIfInBounds_toArray, List.set_cons_zero, List.set_cons_succ])
  refine wpAnyH_take (i := 29) (oi := { dst := some 161, op := Op.pick (Operand.tmp 151) (Operand.tmp 160) (Operand.const (Value.bool false)), type := 4, pos := "law.go:134", after := #[{ on := 19, ground := Ground.data }, { on := 28, ground := Ground.data }], guard := none }) (v := ?_) rfl (by kernel_rfl) (by kernel_rfl) (by kernel_rfl) (fun _ _ _ h => h) (Or.inl ⟨by rfl, ?_⟩) hHeld ?_
  rotate_left
  · intro w hSw; (try dsimp only at hSw); (try go_split_ands); go_simp; (first | done | with_reducible rfl)
  (try simp only [Act.put, List.setIfInBounds_toArray, List.set_cons_zero, List.set_cons_succ])
  refine wpAnyH_take (i := 30) (oi := { dst := some 162, op := Op.move (Operand.tmp 161), type := 4, pos := "law.go:134", after := #[{ on := 29, ground := Ground.data }, { on := 19, ground := Ground.chain }], guard := none }) (v := ?_) rfl (by kernel_rfl) (by kernel_rfl) (by kernel_rfl) (fun _ _ _ h => h) (Or.inl ⟨by rfl, ?_⟩) hHeld ?_
  rotate_left
  · intro w hSw; (try dsimp only at hSw); (try go_split_ands); go_simp; (first | done | with_reducible rfl)
  (try simp only [Act.put, List.setIfInBounds_toArray, List.set_cons_zero, List.set_cons_succ])
  refine wpAnyH_take (i := 31) (oi := { dst := some 163, op := Op.move (Operand.tmp 11), type := 48, pos := "law.go:134", after := #[{ on := 30, ground := Ground.guard }], guard := some (30, true) }) (v := ?_) rfl (by kernel_rfl) (by kernel_rfl) (by kernel_rfl) (fun _ _ _ h => h) (Or.inl ⟨by rfl, ?_⟩) hHeld ?_
  rotate_left
  · intro w hSw; (try dsimp only at hSw); (try go_split_ands); go_simp; (first | done | with_reducible rfl)
  (try simp only [Act.put, List.setIfInBounds_toArray, List.set_cons_zero, List.set_cons_succ])
  refine wpAnyH_take (i := 32) (oi := { dst := some 164, op := Op.nilCheck (Operand.tmp 163), type := 0, pos := "law.go:134", after := #[{ on := 31, ground := Ground.data }, { on := 30, ground := Ground.guard }], guard := some (30, true) }) (v := ?_) rfl (by kernel_rfl) (by kernel_rfl) (by kernel_rfl) (fun _ _ _ h => h) (Or.inl ⟨by rfl, ?_⟩) hHeld ?_
  rotate_left
  · intro w hSw; (try dsimp only at hSw); (try go_split_ands); go_simp; (first | done | with_reducible rfl)
  (try simp only [Act.put, List.setIfInBounds_toArray, List.set_cons_zero, List.set_cons_succ])
  refine wpAnyH_take (i := 33) (oi := { dst := some 165, op := Op.fieldAddr 50 (Operand.tmp 164) 0, type := 0, pos := "law.go:134", after := #[{ on := 32, ground := Ground.data }, { on := 30, ground := Ground.guard }], guard := some (30, true) }) (v := ?_) rfl (by kernel_rfl) (by kernel_rfl) (by kernel_rfl) (fun _ _ _ h => h) (Or.inl ⟨by rfl, ?_⟩) hHeld ?_
  rotate_left
  · intro w hSw; (try dsimp only at hSw); (try go_split_ands); go_simp; (first | done | with_reducible rfl)
  (try simp only [Act.put, List.setIfInBounds_toArray, List.set_cons_zero, List.set_cons_succ])
  refine wpAnyH_take (i := 34) (oi := { dst := some 166, op := Op.load 3 (Operand.tmp 165), type := 3, pos := "law.go:134", after := #[{ on := 33, ground := Ground.data }, { on := 30, ground := Ground.guard }], guard := some (30, true) }) (v := ?_) rfl (by kernel_rfl) (by kernel_rfl) (by kernel_rfl) (fun _ _ _ h => h) (Or.inl ⟨by rfl, ?_⟩) hHeld ?_
  rotate_left
  · intro w hSw; (try dsimp only at hSw); (try go_split_ands); go_simp; (first | done | with_reducible rfl)
  (try simp only [Act.put, List.setIfInBounds_toArray, List.set_cons_zero, List.set_cons_succ])
  refine wpAnyH_take (i := 35) (oi := { dst := some 167, op := Op.move (Operand.tmp 13), type := 48, pos := "law.go:134", after := #[{ on := 30, ground := Ground.guard }], guard := some (30, true) }) (v := ?_) rfl (by kernel_rfl) (by kernel_rfl) (by kernel_rfl) (fun _ _ _ h => h) (Or.inl ⟨by rfl, ?_⟩) hHeld ?_
  rotate_left
  · intro w hSw; (try dsimp only at hSw); (try go_split_ands); go_simp; (first | done | with_reducible rfl)
  (try simp only [Act.put, List.setIfInBounds_toArray, List.set_cons_zero, List.set_cons_succ])
  refine wpAnyH_take (i := 36) (oi := { dst := some 168, op := Op.nilCheck (Operand.tmp 167), type := 0, pos := "law.go:134", after := #[{ on := 35, ground := Ground.data }, { on := 30, ground := Ground.guard }], guard := some (30, true) }) (v := ?_) rfl (by kernel_rfl) (by kernel_rfl) (by kernel_rfl) (fun _ _ _ h => h) (Or.inl ⟨by rfl, ?_⟩) hHeld ?_
  rotate_left
  · intro w hSw; (try dsimp only at hSw); (try go_split_ands); go_simp; (first | done | with_reducible rfl)
  (try simp only [Act.put, List.setIfInBounds_toArray, List.set_cons_zero, List.set_cons_succ])
  refine wpAnyH_take (i := 37) (oi := { dst := some 169, op := Op.fieldAddr 50 (Operand.tmp 168) 0, type := 0, pos := "law.go:134", after := #[{ on := 36, ground := Ground.data }, { on := 30, ground := Ground.guard }], guard := some (30, true) }) (v := ?_) rfl (by kernel_rfl) (by kernel_rfl) (by kernel_rfl) (fun _ _ _ h => h) (Or.inl ⟨by rfl, ?_⟩) hHeld ?_
  rotate_left
  · intro w hSw; (try dsimp only at hSw); (try go_split_ands); go_simp; (first | done | with_reducible rfl)
  (try simp only [Act.put, List.setIfInBounds_toArray, List.set_cons_zero, List.set_cons_succ])
  refine wpAnyH_take (i := 38) (oi := { dst := some 170, op := Op.load 3 (Operand.tmp 169), type := 3, pos := "law.go:134", after := #[{ on := 37, ground := Ground.data }, { on := 30, ground := Ground.guard }], guard := some (30, true) }) (v := ?_) rfl (by kernel_rfl) (by kernel_rfl) (by kernel_rfl) (fun _ _ _ h => h) (Or.inl ⟨by rfl, ?_⟩) hHeld ?_
  rotate_left
  · intro w hSw; (try dsimp only at hSw); (try go_split_ands); go_simp; (first | done | with_reducible rfl)
  (try simp only [Act.put, List.setIfInBounds_toArray, List.set_cons_zero, List.set_cons_succ])
  refine wpAnyH_take (i := 39) (oi := { dst := some 171, op := Op.binOp BinOp.eql 3 (Operand.tmp 166) (Operand.tmp 170) 3, type := 4, pos := "law.go:134", after := #[{ on := 34, ground := Ground.data }, { on := 38, ground := Ground.data }, { on := 30, ground := Ground.guard }], guard := some (30, true) }) (v := ?_) rfl (by kernel_rfl) (by kernel_rfl) (by kernel_rfl) (fun _ _ _ h => h) (Or.inl ⟨by rfl, ?_⟩) hHeld ?_
  rotate_left
  · intro w hSw; (try dsimp only at hSw); (try go_split_ands); go_simp; (first | done | with_reducible rfl)
  (try simp only [Act.put, List.setIfInBounds_toArray, List.set_cons_zero, List.set_cons_succ])
  refine wpAnyH_take (i := 40) (oi := { dst := some 172, op := Op.pick (Operand.tmp 162) (Operand.tmp 171) (Operand.const (Value.bool false)), type := 4, pos := "law.go:134", after := #[{ on := 30, ground := Ground.data }, { on := 39, ground := Ground.data }], guard := none }) (v := ?_) rfl (by kernel_rfl) (by kernel_rfl) (by kernel_rfl) (fun _ _ _ h => h) (Or.inl ⟨by rfl, ?_⟩) hHeld ?_
  rotate_left
  · intro w hSw; (try dsimp only at hSw); (try go_split_ands); go_simp; (first | done | with_reducible rfl)
  (try simp only [Act.put, List.setIfInBounds_toArray, List.set_cons_zero, List.set_cons_succ])
  refine wpAnyH_take (i := 41) (oi := { dst := some 173, op := Op.move (Operand.tmp 172), type := 4, pos := "law.go:134", after := #[{ on := 40, ground := Ground.data }, { on := 30, ground := Ground.chain }], guard := none }) (v := ?_) rfl (by kernel_rfl) (by kernel_rfl) (by kernel_rfl) (fun _ _ _ h => h) (Or.inl ⟨by rfl, ?_⟩) hHeld ?_
  rotate_left
  · intro w hSw; (try dsimp only at hSw); (try go_split_ands); go_simp; (first | done | with_reducible rfl)
  (try simp only [Act.put, List.setIfInBounds_toArray, List.set_cons_zero, List.set_cons_succ])
  refine wpAnyH_take (i := 42) (oi := { dst := some 174, op := Op.move (Operand.tmp 11), type := 48, pos := "law.go:134", after := #[{ on := 41, ground := Ground.guard }], guard := some (41, true) }) (v := ?_) rfl (by kernel_rfl) (by kernel_rfl) (by kernel_rfl) (fun _ _ _ h => h) (Or.inl ⟨by rfl, ?_⟩) hHeld ?_
  rotate_left
  · intro w hSw; (try dsimp only at hSw); (try go_split_ands); go_simp; (first | done | with_reducible rfl)
  (try simp only [Act.put, List.setIfInBounds_toArray, List.set_cons_zero, List.set_cons_succ])
  refine wpAnyH_take (i := 43) (oi := { dst := some 175, op := Op.nilCheck (Operand.tmp 174), type := 0, pos := "law.go:134", after := #[{ on := 42, ground := Ground.data }, { on := 41, ground := Ground.guard }], guard := some (41, true) }) (v := ?_) rfl (by kernel_rfl) (by kernel_rfl) (by kernel_rfl) (fun _ _ _ h => h) (Or.inl ⟨by rfl, ?_⟩) hHeld ?_
  rotate_left
  · intro w hSw; (try dsimp only at hSw); (try go_split_ands); go_simp; (first | done | with_reducible rfl)
  (try simp only [Act.put, List.setIfInBounds_toArray, List.set_cons_zero, List.set_cons_succ])
  refine wpAnyH_take (i := 44) (oi := { dst := some 176, op := Op.fieldAddr 50 (Operand.tmp 175) 0, type := 0, pos := "law.go:134", after := #[{ on := 43, ground := Ground.data }, { on := 41, ground := Ground.guard }], guard := some (41, true) }) (v := ?_) rfl (by kernel_rfl) (by kernel_rfl) (by kernel_rfl) (fun _ _ _ h => h) (Or.inl ⟨by rfl, ?_⟩) hHeld ?_
  rotate_left
  · intro w hSw; (try dsimp only at hSw); (try go_split_ands); go_simp; (first | done | with_reducible rfl)
  (try simp only [Act.put, List.setIfInBounds_toArray, List.set_cons_zero, List.set_cons_succ])
  refine wpAnyH_take (i := 45) (oi := { dst := some 177, op := Op.load 3 (Operand.tmp 176), type := 3, pos := "law.go:134", after := #[{ on := 44, ground := Ground.data }, { on := 41, ground := Ground.guard }], guard := some (41, true) }) (v := ?_) rfl (by kernel_rfl) (by kernel_rfl) (by kernel_rfl) (fun _ _ _ h => h) (Or.inl ⟨by rfl, ?_⟩) hHeld ?_
  rotate_left
  · intro w hSw; (try dsimp only at hSw); (try go_split_ands); go_simp; (first | done | with_reducible rfl)
  (try simp only [Act.put, List.setIfInBounds_toArray, List.set_cons_zero, List.set_cons_succ])
  refine wpAnyH_take (i := 46) (oi := { dst := some 178, op := Op.move (Operand.tmp 14), type := 48, pos := "law.go:134", after := #[{ on := 41, ground := Ground.guard }], guard := some (41, true) }) (v := ?_) rfl (by kernel_rfl) (by kernel_rfl) (by kernel_rfl) (fun _ _ _ h => h) (Or.inl ⟨by rfl, ?_⟩) hHeld ?_
  rotate_left
  · intro w hSw; (try dsimp only at hSw); (try go_split_ands); go_simp; (first | done | with_reducible rfl)
  (try simp only [Act.put, List.setIfInBounds_toArray, List.set_cons_zero, List.set_cons_succ])
  refine wpAnyH_take (i := 47) (oi := { dst := some 179, op := Op.nilCheck (Operand.tmp 178), type := 0, pos := "law.go:134", after := #[{ on := 46, ground := Ground.data }, { on := 41, ground := Ground.guard }], guard := some (41, true) }) (v := ?_) rfl (by kernel_rfl) (by kernel_rfl) (by kernel_rfl) (fun _ _ _ h => h) (Or.inl ⟨by rfl, ?_⟩) hHeld ?_
  rotate_left
  · intro w hSw; (try dsimp only at hSw); (try go_split_ands); go_simp; (first | done | with_reducible rfl)
  (try simp only [Act.put, List.setIfInBounds_toArray, List.set_cons_zero, List.set_cons_succ])
  refine wpAnyH_take (i := 48) (oi := { dst := some 180, op := Op.fieldAddr 50 (Operand.tmp 179) 0, type := 0, pos := "law.go:134", after := #[{ on := 47, ground := Ground.data }, { on := 41, ground := Ground.guard }], guard := some (41, true) }) (v := ?_) rfl (by kernel_rfl) (by kernel_rfl) (by kernel_rfl) (fun _ _ _ h => h) (Or.inl ⟨by rfl, ?_⟩) hHeld ?_
  rotate_left
  · intro w hSw; (try dsimp only at hSw); (try go_split_ands); go_simp; (first | done | with_reducible rfl)
  (try simp only [Act.put, List.setIfInBounds_toArray, List.set_cons_zero, List.set_cons_succ])
  refine wpAnyH_take (i := 49) (oi := { dst := some 181, op := Op.load 3 (Operand.tmp 180), type := 3, pos := "law.go:134", after := #[{ on := 48, ground := Ground.data }, { on := 41, ground := Ground.guard }], guard := some (41, true) }) (v := ?_) rfl (by kernel_rfl) (by kernel_rfl) (by kernel_rfl) (fun _ _ _ h => h) (Or.inl ⟨by rfl, ?_⟩) hHeld ?_
  rotate_left
  · intro w hSw; (try dsimp only at hSw); (try go_split_ands); go_simp; (first | done | with_reducible rfl)
  (try simp only [Act.put, List.setIfInBounds_toArray, List.set_cons_zero, List.set_cons_succ])
  refine wpAnyH_take (i := 50) (oi := { dst := some 182, op := Op.binOp BinOp.eql 3 (Operand.tmp 177) (Operand.tmp 181) 3, type := 4, pos := "law.go:134", after := #[{ on := 45, ground := Ground.data }, { on := 49, ground := Ground.data }, { on := 41, ground := Ground.guard }], guard := some (41, true) }) (v := ?_) rfl (by kernel_rfl) (by kernel_rfl) (by kernel_rfl) (fun _ _ _ h => h) (Or.inl ⟨by rfl, ?_⟩) hHeld ?_
  rotate_left
  · intro w hSw; (try dsimp only at hSw); (try go_split_ands); go_simp; (first | done | with_reducible rfl)
  (try simp only [Act.put, List.setIfInBounds_toArray, List.set_cons_zero, List.set_cons_succ])
  refine wpAnyH_take (i := 51) (oi := { dst := some 183, op := Op.pick (Operand.tmp 173) (Operand.tmp 182) (Operand.const (Value.bool false)), type := 4, pos := "law.go:134", after := #[{ on := 41, ground := Ground.data }, { on := 50, ground := Ground.data }], guard := none }) (v := ?_) rfl (by kernel_rfl) (by kernel_rfl) (by kernel_rfl) (fun _ _ _ h => h) (Or.inl ⟨by rfl, ?_⟩) hHeld ?_
  rotate_left
  · intro w hSw; (try dsimp only at hSw); (try go_split_ands); go_simp; (first | done | with_reducible rfl)
  (try simp only [Act.put, List.setIfInBounds_toArray, List.set_cons_zero, List.set_cons_succ])
  refine wpAnyH_take (i := 52) (oi := { dst := some 8, op := Op.assign (Operand.tmp 183), type := 4, pos := "law.go:134", after := #[{ on := 51, ground := Ground.data }, { on := 41, ground := Ground.chain }, { on := 0, ground := Ground.phase }, { on := 1, ground := Ground.phase }, { on := 2, ground := Ground.phase }, { on := 3, ground := Ground.phase }, { on := 4, ground := Ground.phase }, { on := 5, ground := Ground.phase }, { on := 6, ground := Ground.phase }, { on := 7, ground := Ground.phase }, { on := 8, ground := Ground.phase }, { on := 9, ground := Ground.phase }, { on := 10, ground := Ground.phase }, { on := 11, ground := Ground.phase }, { on := 12, ground := Ground.phase }, { on := 13, ground := Ground.phase }, { on := 14, ground := Ground.phase }, { on := 15, ground := Ground.phase }, { on := 16, ground := Ground.phase }, { on := 17, ground := Ground.phase }, { on := 18, ground := Ground.phase }, { on := 19, ground := Ground.phase }, { on := 20, ground := Ground.phase }, { on := 21, ground := Ground.phase }, { on := 22, ground := Ground.phase }, { on := 23, ground := Ground.phase }, { on := 24, ground := Ground.phase }, { on := 25, ground := Ground.phase }, { on := 26, ground := Ground.phase }, { on := 27, ground := Ground.phase }, { on := 28, ground := Ground.phase }, { on := 29, ground := Ground.phase }, { on := 30, ground := Ground.phase }, { on := 31, ground := Ground.phase }, { on := 32, ground := Ground.phase }, { on := 33, ground := Ground.phase }, { on := 34, ground := Ground.phase }, { on := 35, ground := Ground.phase }, { on := 36, ground := Ground.phase }, { on := 37, ground := Ground.phase }, { on := 38, ground := Ground.phase }, { on := 39, ground := Ground.phase }, { on := 40, ground := Ground.phase }, { on := 41, ground := Ground.phase }, { on := 42, ground := Ground.phase }, { on := 43, ground := Ground.phase }, { on := 44, ground := Ground.phase }, { on := 45, ground := Ground.phase }, { on := 46, ground := Ground.phase }, { on := 47, ground := Ground.phase }, { on := 48, ground := Ground.phase }, { on := 49, ground := Ground.phase }, { on := 50, ground := Ground.phase }, { on := 51, ground := Ground.phase }], guard := none }) (v := ?_) rfl (by kernel_rfl) (by kernel_rfl) (by kernel_rfl) (fun _ _ _ h => h) (Or.inl ⟨by rfl, ?_⟩) hHeld ?_
  rotate_left
  · intro w hSw; (try dsimp only at hSw); (try go_split_ands); go_simp; (first | done | with_reducible rfl)
  (try simp only [Act.put, List.setIfInBounds_toArray, List.set_cons_zero, List.set_cons_succ])
  refine wpAnyH_done (by kernel_rfl) ?_ _
  refine NoPanic.normal ?_
  go_wp2
  go_ret
  exact ⟨rfl, HB8.out⟩

end Go.Proofs.YthokfopeddaiiaaGreatDoor
