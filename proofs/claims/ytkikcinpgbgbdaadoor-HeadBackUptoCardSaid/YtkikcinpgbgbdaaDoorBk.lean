/-
  HeadBack: what is built is opened as it was.
-/
import Derived.Test.YtkikcinpgbgbdaaDoorBu
namespace Go.Proofs.YtkikcinpgbgbdaaDoor
open Go.RowKit Go.Own Go.Own.Hd Go.Own.Fn Go.WideShapes
theorem preL_len (M S U P : ByteArray) : (preL M S U P).length ≤ 4 := by
  unfold preL
  cases U.toList.isEmpty <;> simp
set_option maxHeartbeats 8000000 in
set_option maxRecDepth 100000 in
theorem headBack_any (M S U P : ByteArray) (AR : Option Addr) (n c : Nat) (R : List HdrV) (st : Int) (AQ : Option Addr) (n2 c2 : Nat) (Q : List HdrV) (w : World) {e1 e2 e3 : Addr} (he : EnvH w e1 e2 e3)
    (hs : M.size ≤ 100000000 ∧ S.size ≤ 100000000 ∧ U.size ≤ 100000000 ∧ P.size ≤ 100000000) (hn : n ≤ 100000000 ∧ n2 ≤ 100000000) (hr : Hr w AR n R ∧ Hr w AQ n2 Q) (hz : Szs R ∧ Szs Q)
    (h1 : -9223372036854775808 ≤ st) (h2 : st ≤ 9223372036854775807) :
    Calls Tryd.prog 5 #[.agg #[.string M, .string S, .string U, .string P, .slice AR n c], .agg #[.int .i64 st, .slice AQ n2 c2]] w (MorePost w) := by
  have HE := Lib.hid he
  have HR := Lib.hid hr.1
  have HQ := Lib.hid hr.2
  have HRL := Lib.hid hr.1.1
  have HQL := Lib.hid hr.2.1
  have HZ := Lib.hid hz
  have HN := Lib.hid hn
  have HS := Lib.hid hs
  have HSt := Lib.hid (And.intro h1 h2)
  obtain ⟨m1, m2, m3, m4⟩ := hs
  clear he hr hz hn h1 h2
  go_enter Tryd.func5, Tryd.ntmps5
  go_upto_region 1 with fail
  have hsz1 : (w.alloc (.cells #[.string M, .string S, .string U, .string P, .slice AR n c] 41)).heap.size = w.heap.size + 1 := by simp
  have HB0 := Lib.hid (show Below w.heap.size w ((w.alloc (.cells #[.string M, .string S, .string U, .string P, .slice AR n c] 41)).alloc (.cells #[.int .i64 st, .slice AQ n2 c2] 42)) from ((Below.refl _ _).alloc (Nat.le_refl _) _).alloc (by rw [hsz1]; omega) _)
  have HK0 := Lib.hid ((Blk.new w 41 #[.string M, .string S, .string U, .string P, .slice AR n c]).alloc (.cells #[.int .i64 st, .slice AQ n2 c2] 42))
  have hk1 := Blk.new (w.alloc (.cells #[.string M, .string S, .string U, .string P, .slice AR n c] 41)) 42 #[.int .i64 st, .slice AQ n2 c2]
  rw [hsz1] at hk1
  have HK1 := Lib.hid hk1
  clear hk1
  generalize (w.alloc (.cells #[.string M, .string S, .string U, .string P, .slice AR n c] 41)).alloc (.cells #[.int .i64 st, .slice AQ n2 c2] 42) = w0 at HB0 HK0 HK1 ⊢
  have HKf := Lib.hid (fun W (hW : Below w0.heap.size w0 W) => (show W.cell? ⟨w.heap.size, 0, none⟩ = some (.string M) ∧ W.cell? ⟨w.heap.size, 1, none⟩ = some (.string S) ∧ W.cell? ⟨w.heap.size, 2, none⟩ = some (.string U) ∧ W.cell? ⟨w.heap.size, 3, none⟩ = some (.string P) ∧ W.cell? ⟨w.heap.size, 4, none⟩ = some (.slice AR n c) ∧
      W.cell? ⟨w.heap.size + 1, 0, none⟩ = some (.int .i64 st) ∧ W.cell? ⟨w.heap.size + 1, 1, none⟩ = some (.slice AQ n2 c2) from
    have h := HK0.out.below hW HK0.out.lt
    have h' := HK1.out.below hW HK1.out.lt
    ⟨h.cell 0, h.cell 1, h.cell 2, h.cell 3, h.cell 4, h'.cell 0, h'.cell 1⟩))
  have hsz2 := hsz1
  clear hsz1 hsz2
  go_wp2_with fail
  refine (first_any _ (HE.out.below HB0.out HE.out.room)).mono ?_
  rintro e w1 ⟨rfl, g1⟩
  have HB1 := Lib.hid g1
  clear g1
  obtain ⟨k0, k1, k2, k3, k4, k5, k6⟩ := HKf.out w1 HB1.out
  go_wp2_with fail
  refine (light_any AR n c R w1 HN.out.1 ((HR.out.below HB0.out).below HB1.out) HZ.out.1).mono ?_
  rintro e w2 ⟨lb, rfl, hlb, q2, rfl⟩
  have HLb := Lib.hid hlb
  have HB2 := Lib.hid (below_drewN HB1.out q2)
  generalize w1.drewN q2 = w2 at HB2 ⊢
  clear hlb HB1 k0 k1 k2 k3 k4 k5 k6
  obtain ⟨k0, k1, k2, k3, k4, k5, k6⟩ := HKf.out w2 HB2.out
  rcases lb with _ | _
  · go_wp2
    go_ret
    exact ⟨rfl, HB0.out.trans (HB2.out.mono HB0.out.size)⟩
  · go_wp2_with fail
    refine (light_any AQ n2 c2 Q w2 HN.out.2 ((HQ.out.below HB0.out).below HB2.out) HZ.out.2).mono ?_
    rintro e w3 ⟨lb2, rfl, hlb2, q3, rfl⟩
    have HLb2 := Lib.hid hlb2
    have HB3 := Lib.hid (below_drewN HB2.out q3)
    generalize w2.drewN q3 = w3 at HB3 ⊢
    clear hlb2 HB2 k0 k1 k2 k3 k4 k5 k6
    obtain ⟨k0, k1, k2, k3, k4, k5, k6⟩ := HKf.out w3 HB3.out
    rcases lb2 with _ | _
    · go_wp2
      go_ret
      exact ⟨rfl, HB0.out.trans (HB3.out.mono HB0.out.size)⟩
    · by_cases h3 : M.size + S.size ≤ 3000
      · have h3d : decide ((3000 : Int) < (M.size : Int) + (S.size : Int)) = false := decide_eq_false (by omega)
        by_cases h4 : U.size + P.size ≤ 3000
        · have h4d : decide ((3000 : Int) < (U.size : Int) + (P.size : Int)) = false := decide_eq_false (by omega)
          have HN60 := Lib.hid (And.intro (HLb.out (by trivial)) (HLb2.out (by trivial)))
          clear HLb HLb2
          go_wp2_with fail
          refine (build_any M S U P AR n c R w3 (HE.out.below (HB0.out.trans (HB3.out.mono HB0.out.size)) HE.out.room) (by have := HN60.out; omega) ((HR.out.below HB0.out).below HB3.out) HZ.out.1 ⟨by omega, by omega, by omega, by omega⟩).mono ?_
          rintro e w4 ⟨g4, h4p⟩
          have HB4 := Lib.hid (HB3.out.trans (g4.mono HB3.out.size))
          have HG4 := Lib.hid g4
          clear g4 k0 k1 k2 k3 k4 k5 k6
          obtain ⟨k0, k1, k2, k3, k4, k5, k6⟩ := HKf.out w4 HB4.out
          rcases h4p with rfl | ⟨A6, n6, c6, rfl, hnc6, hw6, hop6⟩
          · unfold errH
            go_wp2_with fail
            refine (buildAnswer_any st AQ n2 c2 Q w4 (HE.out.below (HB0.out.trans (HB4.out.mono HB0.out.size)) HE.out.room) (by have := HN60.out; omega) ((HQ.out.below HB0.out).below HB4.out) HZ.out.2 HSt.out.1 HSt.out.2).mono ?_
            rintro e u4 ⟨g4, h4p⟩
            have HC4 := Lib.hid (HB4.out.trans (g4.mono HB4.out.size))
            clear g4 k0 k1 k2 k3 k4 k5 k6
            obtain ⟨k0, k1, k2, k3, k4, k5, k6⟩ := HKf.out u4 HC4.out
            rcases h4p with rfl | ⟨A8, n8, c8, rfl, hnc8, hn8, hw8, hop8⟩
            · unfold errH
              go_wp2
              go_ret
              exact ⟨rfl, HB0.out.trans (HC4.out.mono HB0.out.size)⟩
            · have HW8 := Lib.hid hw8
              have HO8 := Lib.hid hop8
              have HN8 := Lib.hid (And.intro hnc8 hn8)
              clear hw8 hop8 hnc8 hn8
              have HZl2 := Lib.hid (show Szs ([colH colT (staT st)] ++ Q) from szs_app (szs_one colT (staT st) (by decide) (by
                unfold staT
                rw [Lib.size_eq]
                have := Lib.itoa_length_le st HSt.out.1 HSt.out.2
                simp
                omega)) HZ.out.2)
              go_wp2_with fail
              refine (openAnswer_any A8 n8 c8 ([colH colT (staT st)] ++ Q) u4 (HE.out.below (HB0.out.trans (HC4.out.mono HB0.out.size)) HE.out.room) (by have := HN8.out; have := HQL.out; have := HN60.out; omega) HN8.out.1 HW8.out.hr HZl2.out).mono ?_
              rintro e u5 ⟨g5, h5⟩
              have HC5 := Lib.hid (HC4.out.trans (g5.mono HC4.out.size))
              clear g5
              rw [HO8.out] at h5
              rcases h5 with ⟨h5, _⟩ | ⟨rest, s5, h5, A9, c9, rfl, hw9⟩
              · cases h5
              · injection h5 with h5
                injection h5 with h5 h6
                subst h5 h6
                have HR9 := Lib.hid hw9.hr
                rw [HQL.out] at HR9 hw9 ⊢
                clear hw9 k0 k1 k2 k3 k4 k5 k6
                have HC6 := Lib.hid (HC5.out.alloc HC5.out.size (.cells #[.int .i64 st, .slice A9 n2 c9] 35))
                have HY6 := Lib.hid (Blk.new u5 35 #[.int .i64 st, .slice A9 n2 c9])
                obtain ⟨k0, k1, k2, k3, k4, k5, k6⟩ := HKf.out _ HC6.out
                go_wp2_with fail
                refine (sameHeaders_yes A9 AQ n2 c9 c2 Q _ (by have := HN60.out; omega) (HR9.out.below ((Below.refl _ _).alloc (Nat.le_refl _) _)) ((HQ.out.below HB0.out).below HC6.out)).mono ?_
                rintro e u7 ⟨rfl, g7⟩
                have HC7 := Lib.hid (HC6.out.trans (g7.mono HC6.out.size))
                have HY7 := Lib.hid (HY6.out.below g7 HY6.out.lt)
                clear g7 HC6 HY6 k0 k1 k2 k3 k4 k5 k6
                obtain ⟨k0, k1, k2, k3, k4, k5, k6⟩ := HKf.out u7 HC7.out
                have y0 : u7.cell? ⟨u5.heap.size, 0, none⟩ = some (.int .i64 st) := HY7.out.cell 0
                have hn8 : (n8 : Int) = (n2 : Int) + 1 := by have := HN8.out; have := HQL.out; omega
                have hn8b : ((n8 : Int) == (n2 : Int) + 1) = true := by rw [beq_iff_eq]; exact hn8
                have n260 : n2 ≤ 60 := HN60.out.2
                clear hn8
                go_wp2
                go_ret
                exact ⟨rfl, HB0.out.trans (HC7.out.mono HB0.out.size)⟩
          · have HW6 := Lib.hid hw6
            have HO6 := Lib.hid hop6
            have HNC := Lib.hid hnc6
            have HN6 := Lib.hid (show n6 ≤ 1000 by
              obtain ⟨_, _, e6, _⟩ := hw6.form
              injection e6 with _ e6 _
              rw [e6, List.length_append, HRL.out]
              have := preL_len M S U P
              have := HN60.out
              omega)
            clear hw6 hop6 hnc6
            have HZl := Lib.hid (show Szs (preL M S U P ++ R) from szs_app (by
              have z1 := szs_one colM M (by decide) (by omega)
              have z2 := szs_one colS S (by decide) (by omega)
              have z3 := szs_one colA U (by decide) (by omega)
              have z4 := szs_one colP P (by decide) (by omega)
              unfold preL
              refine szs_app (szs_app (szs_app z1 z2) ?_) z4
              cases U.toList.isEmpty
              · exact z3
              · exact fun x hx => nomatch hx) HZ.out.1)
            go_wp2_with fail
            refine (open_any A6 n6 c6 (preL M S U P ++ R) w4 (HE.out.below (HB0.out.trans (HB4.out.mono HB0.out.size)) HE.out.room) (by have := HN6.out; omega) HNC.out HW6.out.hr HZl.out).mono ?_
            rintro e w5 ⟨g5, h5⟩
            have HB5 := Lib.hid (HB4.out.trans (g5.mono HB4.out.size))
            clear g5
            rw [HO6.out] at h5
            rcases h5 with ⟨h5, _⟩ | ⟨rest, s5, h5, A7, c7, rfl, hw7⟩
            · cases h5
            · injection h5 with h5
              injection h5 with h5 h6
              subst h5 h6
              have HR7 := Lib.hid hw7.hr
              have HLe := Lib.hid HRL.out
              rw [HRL.out] at HR7 hw7 ⊢
              clear hw7 k0 k1 k2 k3 k4 k5 k6
              have HB6 := Lib.hid (HB5.out.alloc HB5.out.size (.cells #[.string M, .string S, .string U, .string P, .slice A7 n c7] 29))
              have HX6 := Lib.hid (Blk.new w5 29 #[.string M, .string S, .string U, .string P, .slice A7 n c7])
              obtain ⟨k0, k1, k2, k3, k4, k5, k6⟩ := HKf.out _ HB6.out
              go_wp2_with fail
              refine (sameHeaders_yes A7 AR n c7 c R _ (by have := HN60.out; omega) (HR7.out.below ((Below.refl _ _).alloc (Nat.le_refl _) _)) ((HR.out.below HB0.out).below HB6.out)).mono ?_
              rintro e w7 ⟨rfl, g7⟩
              have HB7 := Lib.hid (HB6.out.trans (g7.mono HB6.out.size))
              have HX7 := Lib.hid (HX6.out.below g7 HX6.out.lt)
              clear g7 HB6 HX6 k0 k1 k2 k3 k4 k5 k6
              obtain ⟨k0, k1, k2, k3, k4, k5, k6⟩ := HKf.out w7 HB7.out
              have x0 : w7.cell? ⟨w5.heap.size, 0, none⟩ = some (.string M) := HX7.out.cell 0
              have x1 : w7.cell? ⟨w5.heap.size, 1, none⟩ = some (.string S) := HX7.out.cell 1
              have x2 : w7.cell? ⟨w5.heap.size, 2, none⟩ = some (.string U) := HX7.out.cell 2
              have x3 : w7.cell? ⟨w5.heap.size, 3, none⟩ = some (.string P) := HX7.out.cell 3
              go_wp2_with fail
              refine (buildAnswer_any st AQ n2 c2 Q w7 (HE.out.below (HB0.out.trans (HB7.out.mono HB0.out.size)) HE.out.room) (by have := HN60.out; omega) ((HQ.out.below HB0.out).below HB7.out) HZ.out.2 HSt.out.1 HSt.out.2).mono ?_
              rintro e u4 ⟨g4, h4p⟩
              have HC4 := Lib.hid (HB7.out.trans (g4.mono HB7.out.size))
              clear g4 k0 k1 k2 k3 k4 k5 k6
              obtain ⟨k0, k1, k2, k3, k4, k5, k6⟩ := HKf.out u4 HC4.out
              rcases h4p with rfl | ⟨A8, n8, c8, rfl, hnc8, hn8, hw8, hop8⟩
              · unfold errH
                go_wp2
                go_ret
                exact ⟨rfl, HB0.out.trans (HC4.out.mono HB0.out.size)⟩
              · have HW8 := Lib.hid hw8
                have HO8 := Lib.hid hop8
                have HN8 := Lib.hid (And.intro hnc8 hn8)
                clear hw8 hop8 hnc8 hn8
                have HZl2 := Lib.hid (show Szs ([colH colT (staT st)] ++ Q) from szs_app (szs_one colT (staT st) (by decide) (by
                  unfold staT
                  rw [Lib.size_eq]
                  have := Lib.itoa_length_le st HSt.out.1 HSt.out.2
                  simp
                  omega)) HZ.out.2)
                go_wp2_with fail
                refine (openAnswer_any A8 n8 c8 ([colH colT (staT st)] ++ Q) u4 (HE.out.below (HB0.out.trans (HC4.out.mono HB0.out.size)) HE.out.room) (by have := HN8.out; have := HQL.out; have := HN60.out; omega) HN8.out.1 HW8.out.hr HZl2.out).mono ?_
                rintro e u5 ⟨g5, h5⟩
                have HC5 := Lib.hid (HC4.out.trans (g5.mono HC4.out.size))
                clear g5
                rw [HO8.out] at h5
                rcases h5 with ⟨h5, _⟩ | ⟨rest, s5, h5, A9, c9, rfl, hw9⟩
                · cases h5
                · injection h5 with h5
                  injection h5 with h5 h6
                  subst h5 h6
                  have HR9 := Lib.hid hw9.hr
                  rw [HQL.out] at HR9 hw9 ⊢
                  clear hw9 k0 k1 k2 k3 k4 k5 k6
                  have HC6 := Lib.hid (HC5.out.alloc HC5.out.size (.cells #[.int .i64 st, .slice A9 n2 c9] 35))
                  have HY6 := Lib.hid (Blk.new u5 35 #[.int .i64 st, .slice A9 n2 c9])
                  obtain ⟨k0, k1, k2, k3, k4, k5, k6⟩ := HKf.out _ HC6.out
                  go_wp2_with fail
                  refine (sameHeaders_yes A9 AQ n2 c9 c2 Q _ (by have := HN60.out; omega) (HR9.out.below ((Below.refl _ _).alloc (Nat.le_refl _) _)) ((HQ.out.below HB0.out).below HC6.out)).mono ?_
                  rintro e u7 ⟨rfl, g7⟩
                  have HC7 := Lib.hid (HC6.out.trans (g7.mono HC6.out.size))
                  have HY7 := Lib.hid (HY6.out.below g7 HY6.out.lt)
                  clear g7 HC6 HY6 k0 k1 k2 k3 k4 k5 k6
                  obtain ⟨k0, k1, k2, k3, k4, k5, k6⟩ := HKf.out u7 HC7.out
                  have y0 : u7.cell? ⟨u5.heap.size, 0, none⟩ = some (.int .i64 st) := HY7.out.cell 0
                  have hn8 : (n8 : Int) = (n2 : Int) + 1 := by have := HN8.out; have := HQL.out; omega
                  have hn8b : ((n8 : Int) == (n2 : Int) + 1) = true := by rw [beq_iff_eq]; exact hn8
                  have n260 : n2 ≤ 60 := HN60.out.2
                  clear hn8
                  go_wp2
                  go_ret
                  exact ⟨rfl, HB0.out.trans (HC7.out.mono HB0.out.size)⟩
        · have h4d : decide ((3000 : Int) < (U.size : Int) + (P.size : Int)) = true := decide_eq_true (by omega)
          go_wp2
          go_ret
          exact ⟨rfl, HB0.out.trans (HB3.out.mono HB0.out.size)⟩
      · have h3d : decide ((3000 : Int) < (M.size : Int) + (S.size : Int)) = true := decide_eq_true (by omega)
        go_wp2
        go_ret
        exact ⟨rfl, HB0.out.trans (HB3.out.mono HB0.out.size)⟩
end Go.Proofs.YtkikcinpgbgbdaaDoor
