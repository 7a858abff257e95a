/-
  Contracts: stamp.Date, Of.
-/
import Derived.Test.YtacmlpgakibdgaaDoorSt3
namespace Go.Proofs.YtacmlpgakibdgaaDoor
open Go.RowKit Go.Own Go.Own.Dig Go.Own.Alg

def sixOf (y m d h i e : Int) : Array Value := #[.int .i64 y, .int .i64 m, .int .i64 d, .int .i64 h, .int .i64 i, .int .i64 e]

/-- What Date answers of a time. -/
def DatePost (s : Int) (w : World) (x : Ending) (w' : World) : Prop :=
  ∃ (g : Nat) (y m d h i e : Int), x = .returned (.tuple #[.slice (some ⟨g, 0, none⟩) 6 6, .nilIface]) ∧ Cal.DateOf s y m d h i e ∧ Blk w' g 3 (sixOf y m d h i e) ∧ w.heap.size ≤ g ∧ Below w.heap.size w w'

theorem date_of {s y m D q : Int} (hy1 : 1 ≤ y) (hy2 : y ≤ 9999) (hm1 : 1 ≤ m) (hm2 : m ≤ 12) (hD : D = (s + 62135596800) / 86400 - Cal.ahead y - Cal.cum y m) (h0 : 0 ≤ D) (h1 : D < Cal.mlen y m) (hq : q = (s + 62135596800) % 86400) :
    Cal.DateOf s y m (D + 1) (q / 3600) (q / 60 % 60) (q % 60) := by
  refine ⟨⟨hy1, hy2, hm1, hm2, by omega, by omega⟩, by omega, by omega, by omega, by omega, by omega, by omega, ?_⟩
  unfold Cal.dn
  omega

set_option maxHeartbeats 1000000 in
theorem date_yes (s n : Int) (w : World) (hv : okT s n = true) :
    Calls Tryd.prog 8 #[.agg #[.int .i64 s, .int .i64 n]] w (DatePost s w) := by
  obtain ⟨x1, x2, x3, x4⟩ := of_decide_eq_true hv
  have HV := Lib.hid hv
  clear hv
  go_enter Tryd.func8, Tryd.ntmps8
  go_wp2_with fail
  refine (valid_any s n _).mono ?_
  rw [HV.out]
  rintro e w1 ⟨rfl, rfl⟩
  go_wp2_with fail
  have hDb : 0 ≤ (s + 62135596800) / 86400 ∧ (s + 62135596800) / 86400 ≤ 3652058 := by omega
  have hqb : 0 ≤ (s + 62135596800) % 86400 ∧ (s + 62135596800) % 86400 < 86400 := by omega
  obtain ⟨D, hD⟩ : ∃ D, (s + 62135596800) / 86400 = D := ⟨_, rfl⟩
  obtain ⟨q, hq⟩ : ∃ q, (s + 62135596800) % 86400 = q := ⟨_, rfl⟩
  rw [hD, hq]
  rw [hD] at hDb
  rw [hq] at hqb
  have HD := Lib.hid hD
  have HQ := Lib.hid hq
  obtain ⟨d0, d1⟩ := hDb
  obtain ⟨q0, q1⟩ := hqb
  have g0 := Cal.ahead_guess D d0
  clear hD hq x1 x2 x3 x4
  go_loop [6] (fun t => ∃ y : Int, 1 ≤ y ∧ y ≤ 9999 ∧ Cal.ahead y ≤ D ∧ t = .int .i64 y) (fun t => (9999 - intOf t).toNat)
  case atStart => exact ⟨_, by omega, by omega, g0, rfl⟩
  case round =>
    obtain ⟨y, hy1, hy2, hy3, rfl⟩ := hrel
    clear g0
    have ha := Cal.ahead_bd (y + 1) (by omega) (by omega)
    have ha0 := Cal.ahead_bd y (by omega) (by omega)
    have hs := Cal.ahead_succ y
    have hl := Cal.lp_01 y
    have HS := Lib.hid hs
    clear hs
    by_cases hc : Cal.ahead (y + 1) ≤ D
    · have hy : y ≤ 9998 := by
        by_cases e : y = 9999
        · subst e; have := Cal.ahead_max; rw [show (9999 : Int) + 1 = 10000 from rfl] at hc; omega
        · omega
      go_wp2_with (go_at_call 23; refine (ahead_any _ _ (by omega) (by omega)).mono ?_; rintro e w' ⟨rfl, rfl⟩)
      go_round
      case rel => exact ⟨y + 1, by omega, by omega, hc, rfl⟩
      case measure => simp [intOf]; omega
    · have hc' : D < Cal.ahead (y + 1) := by omega
      clear hc
      go_wp2_with fail
      refine (ahead_any _ _ (by omega) (by omega)).mono ?_
      rintro e w' ⟨rfl, rfl⟩
      go_wp2_with fail
      refine (ahead_any _ _ (by omega) (by omega)).mono ?_
      rintro e w' ⟨rfl, rfl⟩
      go_wp2_with fail
      have hR : D - Cal.ahead y < 365 + Cal.lp y := by have := HS.out; omega
      obtain ⟨A, hA⟩ : ∃ A, Cal.ahead y = A := ⟨_, rfl⟩
      rw [hA] at ha0 hy3 hR ⊢
      have HA := Lib.hid hA
      clear hA hc' ha HS
      obtain ⟨LP, hLP⟩ : ∃ L, Cal.lp y = L := ⟨_, rfl⟩
      rw [hLP] at hl hR
      have HLP := Lib.hid hLP
      clear hLP
      go_loop [5, 7] (fun r k => ∃ m : Int, 1 ≤ m ∧ m ≤ 12 ∧ k = .int .i64 m ∧ 0 ≤ D - A - Cal.cum y m ∧ r = .int .i64 (D - A - Cal.cum y m)) (fun _ k => (12 - intOf k).toNat)
      case atStart => exact ⟨1, by omega, by omega, rfl, by rw [Cal.cum_one]; omega, by rw [Cal.cum_one, Int.sub_zero]⟩
      case round =>
        obtain ⟨m, hm1, hm2, rfl, hr, rfl⟩ := hrel
        have cb := Cal.cum_bd y m
        have db := Cal.mlen_bd y m
        have CS := Lib.hid (Cal.cum_succ y m hm1 hm2)
        by_cases hc : Cal.mlen y m ≤ D - A - Cal.cum y m
        · have hm : m ≤ 11 := by
            by_cases e : m = 12
            · subst e
              have h1 := CS.out
              rw [show (12 : Int) + 1 = 13 from rfl, Cal.cum_end, HLP.out] at h1
              omega
            · omega
          go_wp2_with fail
          refine (month_any _ _ _ (by omega) (by omega) hm1 hm2).mono ?_
          rintro e w' ⟨rfl, rfl⟩
          go_wp2_with fail
          refine (month_any _ _ _ (by omega) (by omega) hm1 hm2).mono ?_
          rintro e w' ⟨rfl, rfl⟩
          go_wp2_with fail
          go_round
          case rel => exact ⟨m + 1, by omega, by omega, rfl, by rw [CS.out]; omega, by rw [CS.out]; go_num⟩
          case measure => simp [intOf]; omega
        · have hc' : D - A - Cal.cum y m < Cal.mlen y m := by omega
          clear hc
          have HF : Hid (Cal.DateOf s y m (D - A - Cal.cum y m + 1) (q / 3600) (q / 60 % 60) (q % 60)) :=
            Lib.hid (date_of hy1 hy2 hm1 hm2 (by rw [HD.out, HA.out]) hr hc' HQ.out.symm)
          go_wp2_with fail
          refine (month_any _ _ _ (by omega) (by omega) hm1 hm2).mono ?_
          rintro e w' ⟨rfl, rfl⟩
          go_wp2
          go_ret2
          exact ⟨_, y, m, D - A - Cal.cum y m + 1, q / 3600, q / 60 % 60, q % 60, rfl, HF.out, (by have h := Blk.new ((w.alloc (.cells #[.int .i64 s, .int .i64 n] 24)).alloc (.cells #[.int .i64 s, .int .i64 n] 24)) 3 (sixOf y m (D - A - Cal.cum y m + 1) (q / 3600) (q / 60 % 60) (q % 60)); rw [World.size_alloc, World.size_alloc] at h; exact h), by omega, (by repeat (first | exact Below.refl _ _ | refine Below.drew ?_ | refine Below.alloc ?_ (by simp <;> omega) _ | refine Below.setCell ?_ (by simp <;> omega) _))⟩

/-- The error alone. -/
def resD (ev : Addr) : Value := .tuple #[.slice none 0 0, .iface 105 (.pointer (some ev))]

set_option maxHeartbeats 1000000 in
theorem date_no (s n : Int) (w : World) (ev : Addr) (he : EnvS w ev) (hv : okT s n = false) :
    Calls Tryd.prog 8 #[.agg #[.int .i64 s, .int .i64 n]] w fun e w' => e = .returned (resD ev) ∧ Below w.heap.size w w' := by
  have hc := he.value
  have hr := he.room
  have hz : 0 < w.heap.size := by omega
  have HV := Lib.hid hv
  clear hv he
  go_enter Tryd.func8, Tryd.ntmps8
  go_wp2_with fail
  refine (valid_any s n _).mono ?_
  rw [HV.out]
  rintro e w1 ⟨rfl, rfl⟩
  go_wp2_with fail
  go_region
  go_wp2
  go_ret2
  exact ⟨rfl, (by repeat (first | exact Below.refl _ _ | refine Below.drew ?_ | refine Below.alloc ?_ (by simp <;> omega) _ | refine Below.setCell ?_ (by simp <;> omega) _))⟩

theorem six_of {w : World} {g : Nat} {y m d h i e : Int} (hb : Blk w g 3 (sixOf y m d h i e)) :
    w.cell? ⟨g, 0, none⟩ = some (.int .i64 y) ∧ w.cell? ⟨g, 1, none⟩ = some (.int .i64 m) ∧ w.cell? ⟨g, 2, none⟩ = some (.int .i64 d) ∧ w.cell? ⟨g, 3, none⟩ = some (.int .i64 h) ∧ w.cell? ⟨g, 4, none⟩ = some (.int .i64 i) ∧ w.cell? ⟨g, 5, none⟩ = some (.int .i64 e) :=
  ⟨hb.cell 0, hb.cell 1, hb.cell 2, hb.cell 3, hb.cell 4, hb.cell 5⟩

/-- The time of a date, as it is returned. -/
def resO (ev : Addr) : Option Int → Value
  | some s => .tuple #[.agg #[.int .i64 s, .int .i64 0], .nilIface]
  | none => .tuple #[.agg #[.int .i64 0, .int .i64 0], .iface 105 (.pointer (some ev))]

end Go.Proofs.YtacmlpgakibdgaaDoor
