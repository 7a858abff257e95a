/-
  Contract: stamp.Of.
-/
import Derived.Test.YtacmlpgakibdgaaDoorSt4
import Derived.StillTailTactics
namespace Go.Proofs.YtacmlpgakibdgaaDoor
open Go.RowKit Go.Own Go.Own.Dig Go.Own.Alg

/-- What Of is handed. -/
structure OfIn (w : World) (ev : Addr) (g : Nat) (y m d h i e : Int) : Prop where
  env : EnvS w ev
  blk : Blk w g 3 (sixOf y m d h i e)
  by1 : 0 ≤ y ∧ y ≤ 1000000
  bm : 0 ≤ m ∧ m ≤ 1000000
  bd : 0 ≤ d ∧ d ≤ 1000000
  bh : 0 ≤ h ∧ h ≤ 1000000
  bi : 0 ≤ i ∧ i ≤ 1000000
  be : 0 ≤ e ∧ e ≤ 1000000

def OfPost (ev : Addr) (y m d h i e : Int) (w : World) (x : Ending) (w' : World) : Prop := x = .returned (resO ev (ofD y m d h i e)) ∧ Below w.heap.size w w'

theorem ofD_none {y m d h i e : Int} (hn : ¬ (1 ≤ y ∧ y ≤ 9999 ∧ 1 ≤ m ∧ m ≤ 12 ∧ 1 ≤ d ∧ d ≤ Cal.mlen y m ∧ 0 ≤ h ∧ h < 24 ∧ 0 ≤ i ∧ i < 60 ∧ 0 ≤ e ∧ e < 60)) : ofD y m d h i e = none := by unfold ofD; rw [if_neg hn]

set_option maxHeartbeats 1000000 in
set_option maxRecDepth 100000 in
theorem of_bad (ev : Addr) (g : Nat) (y m d h i e : Int) (w : World) (hi : OfIn w ev g y m d h i e) (hb : y < 1 ∨ 9999 < y ∨ m < 1 ∨ 12 < m ∨ d < 1 ∨ Cal.mlen y m < d) :
    Calls Tryd.prog 13 #[.slice (some ⟨g, 0, none⟩) 6 6] w (OfPost ev y m d h i e w) := by
  obtain ⟨he, hbk, ⟨y1, y2⟩, ⟨m1, m2⟩, ⟨d1, d2⟩, _, _, _⟩ := hi
  have hc := he.value
  have hr := he.room
  have hz : 0 < w.heap.size := by omega
  have hg := hbk.lt
  obtain ⟨c0, c1, c2, _, _, _⟩ := six_of hbk
  have HX : Hid (ofD y m d h i e = none) := Lib.hid (ofD_none (by omega))
  clear he hbk
  by_cases b1 : y < 1
  · clear hb
    go_enter Tryd.func13, Tryd.ntmps13
    go_wp2_with fail
    go_quiet (fail)
    go_wp2_with fail
    go_region
    go_wp2
    exact bodyPost_ret (v := resO ev none) (by simp [results, Tryd.results13, go_sem, resO]) rfl ⟨by rw [HX.out], (by repeat (first | exact Below.refl _ _ | refine Below.drew ?_ | refine below_drewN ?_ _ | refine Below.alloc ?_ (by simp <;> omega) _ | refine Below.setCell ?_ (by simp <;> omega) _))⟩
  by_cases b2 : 9999 < y
  · clear hb
    go_enter Tryd.func13, Tryd.ntmps13
    go_wp2_with fail
    go_quiet (fail)
    go_wp2_with fail
    go_region
    go_wp2
    exact bodyPost_ret (v := resO ev none) (by simp [results, Tryd.results13, go_sem, resO]) rfl ⟨by rw [HX.out], (by repeat (first | exact Below.refl _ _ | refine Below.drew ?_ | refine below_drewN ?_ _ | refine Below.alloc ?_ (by simp <;> omega) _ | refine Below.setCell ?_ (by simp <;> omega) _))⟩
  by_cases b3 : m < 1
  · clear hb
    go_enter Tryd.func13, Tryd.ntmps13
    go_wp2_with fail
    go_quiet (fail)
    go_wp2_with fail
    go_region
    go_wp2
    exact bodyPost_ret (v := resO ev none) (by simp [results, Tryd.results13, go_sem, resO]) rfl ⟨by rw [HX.out], (by repeat (first | exact Below.refl _ _ | refine Below.drew ?_ | refine below_drewN ?_ _ | refine Below.alloc ?_ (by simp <;> omega) _ | refine Below.setCell ?_ (by simp <;> omega) _))⟩
  by_cases b4 : 12 < m
  · clear hb
    go_enter Tryd.func13, Tryd.ntmps13
    go_wp2_with fail
    go_quiet (fail)
    go_wp2_with fail
    go_region
    go_wp2
    exact bodyPost_ret (v := resO ev none) (by simp [results, Tryd.results13, go_sem, resO]) rfl ⟨by rw [HX.out], (by repeat (first | exact Below.refl _ _ | refine Below.drew ?_ | refine below_drewN ?_ _ | refine Below.alloc ?_ (by simp <;> omega) _ | refine Below.setCell ?_ (by simp <;> omega) _))⟩
  by_cases b5 : d < 1
  · clear hb
    go_enter Tryd.func13, Tryd.ntmps13
    go_wp2_with fail
    go_quiet (fail)
    go_wp2_with fail
    go_region
    go_wp2
    exact bodyPost_ret (v := resO ev none) (by simp [results, Tryd.results13, go_sem, resO]) rfl ⟨by rw [HX.out], (by repeat (first | exact Below.refl _ _ | refine Below.drew ?_ | refine below_drewN ?_ _ | refine Below.alloc ?_ (by simp <;> omega) _ | refine Below.setCell ?_ (by simp <;> omega) _))⟩
  have hl : Cal.mlen y m < d := by omega
  clear hb
  go_enter Tryd.func13, Tryd.ntmps13
  go_wp2_with fail
  go_quiet (fail)
  go_wp2_with fail
  refine (month_any _ _ _ (by omega) (by omega) (by omega) (by omega)).mono ?_
  rintro e w' ⟨rfl, rfl⟩
  go_wp2_with fail
  go_region
  go_wp2
  exact bodyPost_ret (v := resO ev none) (by simp [results, Tryd.results13, go_sem, resO]) rfl ⟨by rw [HX.out], (by repeat (first | exact Below.refl _ _ | refine Below.drew ?_ | refine below_drewN ?_ _ | refine Below.alloc ?_ (by simp <;> omega) _ | refine Below.setCell ?_ (by simp <;> omega) _))⟩

set_option maxHeartbeats 2000000 in
set_option maxRecDepth 100000 in
theorem of_good (ev : Addr) (g : Nat) (y m d h i e : Int) (w : World) (hi : OfIn w ev g y m d h i e) (y1 : 1 ≤ y) (y2 : y ≤ 9999) (m1 : 1 ≤ m) (m2 : m ≤ 12) (d1 : 1 ≤ d) (d2 : d ≤ Cal.mlen y m) :
    Calls Tryd.prog 13 #[.slice (some ⟨g, 0, none⟩) 6 6] w (OfPost ev y m d h i e w) := by
  obtain ⟨he, hbk, _, _, _, ⟨h1, h2⟩, ⟨i1, i2⟩, ⟨e1, e2⟩⟩ := hi
  have hc := he.value
  have hr := he.room
  have hz : 0 < w.heap.size := by omega
  have hg := hbk.lt
  obtain ⟨c0, c1, c2, c3, c4, c5⟩ := six_of hbk
  have hml := Cal.mlen_bd y m
  have t1 : decide (y < 1) = false := decide_eq_false (by omega)
  have t2 : decide (9999 < y) = false := decide_eq_false (by omega)
  have t3 : decide (m < 1) = false := decide_eq_false (by omega)
  have t4 : decide (12 < m) = false := decide_eq_false (by omega)
  have t5 : decide (d < 1) = false := decide_eq_false (by omega)
  have t6 : decide (Cal.mlen y m < d) = false := decide_eq_false (by omega)
  clear he hbk
  go_enter Tryd.func13, Tryd.ntmps13
  go_wp2_with fail
  go_quiet (fail)
  go_wp2_with fail
  refine (month_any _ _ _ (by omega) (by omega) (by omega) (by omega)).mono ?_
  rintro e w' ⟨rfl, rfl⟩
  go_wp2_with fail
  have hB0 : Below w.heap.size w (((w.alloc (.cells #[.int .i64 0, .int .i64 0] 24)).drewN nq).alloc (.cells #[.int .i64 24, .int .i64 60, .int .i64 60] 3)) :=
    (below_drewN ((Below.refl _ _).alloc (Nat.le_refl _) _) nq).alloc (by simp) _
  have hT0 : Blk (((w.alloc (.cells #[.int .i64 0, .int .i64 0] 24)).drewN nq).alloc (.cells #[.int .i64 24, .int .i64 60, .int .i64 60] 3)) (w.heap.size + 1) 3 #[.int .i64 24, .int .i64 60, .int .i64 60] := by
    have := Blk.new ((w.alloc (.cells #[.int .i64 0, .int .i64 0] 24)).drewN nq) 3 #[.int .i64 24, .int .i64 60, .int .i64 60]
    simpa using this
  have hR0 : Blk (((w.alloc (.cells #[.int .i64 0, .int .i64 0] 24)).drewN nq).alloc (.cells #[.int .i64 24, .int .i64 60, .int .i64 60] 3)) w.heap.size 24 #[.int .i64 0, .int .i64 0] :=
    ((Blk.new w 24 #[.int .i64 0, .int .i64 0]).drewN nq).alloc _
  generalize ((w.alloc (.cells #[.int .i64 0, .int .i64 0] 24)).drewN nq).alloc (.cells #[.int .i64 24, .int .i64 60, .int .i64 60] 3) = W0 at hB0 hT0 hR0 ⊢
  have k0 : W0.cell? ⟨w.heap.size + 1, 0, none⟩ = some (.int .i64 24) := hT0.cell 0
  have k1 : W0.cell? ⟨w.heap.size + 1, 1, none⟩ = some (.int .i64 60) := hT0.cell 1
  have k2 : W0.cell? ⟨w.heap.size + 1, 2, none⟩ = some (.int .i64 60) := hT0.cell 2
  have r0 : W0.cell? ⟨w.heap.size, 0, none⟩ = some (.int .i64 0) := hR0.cell 0
  have r1 : W0.cell? ⟨w.heap.size, 1, none⟩ = some (.int .i64 0) := hR0.cell 1
  have z0 := hR0.frozen 0
  have z1 := hR0.frozen 1
  have hcW : W0.cell? ⟨0, 0, none⟩ = some (.iface 105 (.pointer (some ev))) := (hB0.cell (p := ⟨0, 0, none⟩) hz).trans hc
  have d3 : W0.cell? ⟨g, 3, none⟩ = some (.int .i64 h) := (hB0.cell (p := ⟨g, 3, none⟩) hg).trans c3
  have d4 : W0.cell? ⟨g, 4, none⟩ = some (.int .i64 i) := (hB0.cell (p := ⟨g, 4, none⟩) hg).trans c4
  have d5 : W0.cell? ⟨g, 5, none⟩ = some (.int .i64 e) := (hB0.cell (p := ⟨g, 5, none⟩) hg).trans c5
  have HB := Lib.hid hB0
  have HR := Lib.hid hR0
  clear c0 c1 c2 c3 c4 c5 hc hB0 hT0 hR0 t1 t2 t3 t4 t5 t6
  go_loop [54, 7, 8] (fun ix _ _ => ∃ k : Nat, k ≤ 3 ∧ ix = .int .i64 k ∧ (0 < k → h < 24) ∧ (1 < k → i < 60) ∧ (2 < k → e < 60)) (fun ix _ _ => 3 - (intOf ix).toNat)
  case atStart => exact ⟨0, by omega, rfl, fun h => by omega, fun h => by omega, fun h => by omega⟩
  case round =>
    obtain ⟨k, hk, rfl, p1, p2, p3⟩ := hrel
    have hk' : k = 0 ∨ k = 1 ∨ k = 2 ∨ k = 3 := by omega
    clear hk
    rcases hk' with rfl | rfl | rfl | rfl
    · by_cases hx : h < 24
      · go_wp2
        go_round
        case rel => exact ⟨1, by omega, rfl, fun _ => hx, fun h => by omega, fun h => by omega⟩
        case measure => simp [intOf]
      · have HX : Hid (ofD y m d h i e = none) := Lib.hid (ofD_none (by omega))
        go_wp2_with fail
        go_region
        go_wp2
        exact bodyPost_ret (v := resO ev none) (by simp [results, Tryd.results13, go_sem, resO, r0, r1]) rfl ⟨by rw [HX.out], (by repeat (first | exact HB.out | refine Below.drew ?_ | refine below_drewN ?_ _ | refine Below.alloc ?_ (by simp <;> omega) _ | refine Below.setCell ?_ (by simp <;> omega) _))⟩
    · by_cases hx : i < 60
      · go_wp2
        go_round
        case rel => exact ⟨2, by omega, rfl, fun _ => p1 (by omega), fun _ => hx, fun h => by omega⟩
        case measure => simp [intOf]
      · have HX : Hid (ofD y m d h i e = none) := Lib.hid (ofD_none (by omega))
        go_wp2_with fail
        go_region
        go_wp2
        exact bodyPost_ret (v := resO ev none) (by simp [results, Tryd.results13, go_sem, resO, r0, r1]) rfl ⟨by rw [HX.out], (by repeat (first | exact HB.out | refine Below.drew ?_ | refine below_drewN ?_ _ | refine Below.alloc ?_ (by simp <;> omega) _ | refine Below.setCell ?_ (by simp <;> omega) _))⟩
    · by_cases hx : e < 60
      · go_wp2
        go_round
        case rel => exact ⟨3, by omega, rfl, fun _ => p1 (by omega), fun _ => p2 (by omega), fun _ => hx⟩
        case measure => simp [intOf]
      · have HX : Hid (ofD y m d h i e = none) := Lib.hid (ofD_none (by omega))
        go_wp2_with fail
        go_region
        go_wp2
        exact bodyPost_ret (v := resO ev none) (by simp [results, Tryd.results13, go_sem, resO, r0, r1]) rfl ⟨by rw [HX.out], (by repeat (first | exact HB.out | refine Below.drew ?_ | refine below_drewN ?_ _ | refine Below.alloc ?_ (by simp <;> omega) _ | refine Below.setCell ?_ (by simp <;> omega) _))⟩
    · have q1 := p1 (by omega)
      have q2 := p2 (by omega)
      have q3 := p3 (by omega)
      clear p1 p2 p3
      have ha := Cal.ahead_bd y (by omega) (by omega)
      go_wp2_with fail
      refine (ahead_any _ _ (by omega) (by omega)).mono ?_
      rintro e w' ⟨rfl, rfl⟩
      go_wp2_with fail
      go_loop [9, 10] (fun r t => ∃ k : Int, 1 ≤ k ∧ k ≤ m ∧ t = .int .i64 k ∧ r = .int .i64 (Cal.ahead y - 719162 + d - 1 + Cal.cum y k)) (fun _ t => (12 - intOf t).toNat)
      case atStart => exact ⟨1, by omega, by omega, rfl, by rw [Cal.cum_one, Int.add_zero]⟩
      case round =>
        obtain ⟨k, hk1, hk2, rfl, rfl⟩ := hrel
        have cb := Cal.cum_bd y k
        have db := Cal.mlen_bd y k
        by_cases hkm : k < m
        · have CS := Lib.hid (Cal.cum_succ y k hk1 (by omega))
          go_wp2_with fail
          refine (month_any _ _ _ (by omega) (by omega) (by omega) (by omega)).mono ?_
          rintro e w' ⟨rfl, rfl⟩
          go_wp2_with fail
          go_round
          case rel => exact ⟨k + 1, by omega, by omega, rfl, by rw [CS.out]; go_num⟩
          case measure => simp [intOf]; omega
        · obtain rfl : k = m := by omega
          have HX : Hid (ofD y k d h i e = some ((Cal.ahead y - 719162 + d - 1 + Cal.cum y k) * 86400 + h * 3600 + i * 60 + e)) :=
            Lib.hid (by unfold ofD; rw [if_pos ⟨y1, y2, m1, m2, d1, d2, h1, q1, i1, q2, e1, q3⟩]; congr 1; unfold Cal.dn; omega)
          go_wp2_with fail
          go_region
          go_wp2
          exact bodyPost_ret (v := resO ev (some ((Cal.ahead y - 719162 + d - 1 + Cal.cum y k) * 86400 + h * 3600 + i * 60 + e))) (by simp [results, Tryd.results13, go_sem, resO, r0, r1]) rfl ⟨by rw [HX.out], (by repeat (first | exact HB.out | refine Below.drew ?_ | refine below_drewN ?_ _ | refine Below.alloc ?_ (by simp <;> omega) _ | refine Below.setCell ?_ (by simp <;> omega) _))⟩

theorem of_any (ev : Addr) (g : Nat) (y m d h i e : Int) (w : World) (hi : OfIn w ev g y m d h i e) :
    Calls Tryd.prog 13 #[.slice (some ⟨g, 0, none⟩) 6 6] w (OfPost ev y m d h i e w) := by
  by_cases hb : y < 1 ∨ 9999 < y ∨ m < 1 ∨ 12 < m ∨ d < 1 ∨ Cal.mlen y m < d
  · exact of_bad ev g y m d h i e w hi hb
  · exact of_good ev g y m d h i e w hi (by omega) (by omega) (by omega) (by omega) (by omega) (by omega)
end Go.Proofs.YtacmlpgakibdgaaDoor
