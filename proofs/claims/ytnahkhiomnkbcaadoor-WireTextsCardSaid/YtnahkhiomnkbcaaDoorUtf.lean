/-
  Contract: unicode/utf8.Valid, wire.Text: what the plain law of texts says.
-/
import Derived.Test.YtnahkhiomnkbcaaDoorWord
import Derived.Test.YtnahkhiomnkbcaaDoorMk
import Derived.Deep.LoopGhost
import Derived.Deep.DeepMust
import Derived.Below
import Derived.Deep.CutBlock
import Derived.Deep.DeepCutAuto
namespace Go.Proofs.YtnahkhiomnkbcaaDoor
open Go.RowKit Go.Own Go.Own.Wire

/-- utf8's two tables. -/
structure Tabs (w : World) : Prop where
  first : ∀ c, c < 256 → w.cell? ⟨5, c, none⟩ = some (.int .u8 (Lib.firstT c : Nat))
  acc : ∀ i, i < 16 → w.cell? ⟨6, i * 2, none⟩ = some (.int .u8 (Lib.accLo i : Nat)) ∧ w.cell? ⟨6, i * 2 + 1, none⟩ = some (.int .u8 (Lib.accHi i : Nat))
  room : 8 ≤ w.heap.size
theorem Tabs.below {w w' : World} {B : Nat} (h : Tabs w) (hb : Below B w w') (hB : 8 ≤ B) : Tabs w' :=
  ⟨fun c hc => (hb.cell (p := ⟨5, c, none⟩) (show 5 < B by omega)).trans (h.first c hc), fun i hi => ⟨(hb.cell (p := ⟨6, i * 2, none⟩) (show 6 < B by omega)).trans (h.acc i hi).1, (hb.cell (p := ⟨6, i * 2 + 1, none⟩) (show 6 < B by omega)).trans (h.acc i hi).2⟩, Nat.le_trans h.room hb.size⟩

theorem cutN {w : World} {B n : Nat} {A : Option Addr} {l : List UInt8} (h : Rd w B A n l) (k : Nat) (x : Int) (hx : x = (k : Int)) (hk : k ≤ n) :
    ∃ A' n', n' + k = n ∧ Rd w B A' n' (l.drop k) ∧ ∀ W : World, (Instr.slice 23 (.slice A n n) (some (.int .i64 x)) none none).run Tryd.prog W = .ok (.slice A' n' n') W := by
  obtain ⟨A', h1, h2⟩ := cut_from (c := n) byteP h x hx hk (Nat.le_refl n)
  exact ⟨A', n - k, by omega, h1, h2⟩
theorem and7v : ∀ X : Fin 256, bits .and .u8 ((X.val : Nat) : Int) 7 = ((X.val % 8 : Nat) : Int) := by decide +kernel
theorem first_lt (x : Nat) : Lib.firstT x < 256 := by
  unfold Lib.firstT; repeat' split
  all_goals omega

/-- Eight bytes as a word: what Valid's fast way asks. -/
theorem word_at {w : World} {B n : Nat} {A : Option Addr} {l : List UInt8} (hr : Rd w B A n l) (hn : 8 ≤ n) :
    ∃ V : Nat, V < 18446744073709551616 ∧ (V &&& 9259542123273814144 = 0 → AscL l 8) ∧ ∀ w', Below B w w' → Calls Tryd.prog 44 #[.slice A n n] w' fun e w2 => e = .returned (.int .u64 (V : Int)) ∧ ∃ q, w2 = w'.drewN q :=
  ⟨_, word_ltL l (by rw [hr.1]; exact hn), (word_ascL l (by rw [hr.1]; exact hn)).1, fun w' hb => word_any A n n l w' B (hr.below hb) hn⟩

theorem skipL {l : List UInt8} {k : Nat} {b : Bool} (h : AscL l k) (hv : Lib.validD l = b) : Lib.validD (l.drop k) = b := by
  rw [← Lib.validD_ascii k l h]; exact hv

set_option maxHeartbeats 16000000 in
set_option maxRecDepth 1000000 in
theorem valid_any (A0 : Option Addr) (n0 c0 : Nat) (l0 : List UInt8) (w : World) (hr0 : Rd w w.heap.size A0 n0 l0) (hT : Tabs w) (hn0 : n0 ≤ 1000000000000) (hnc : n0 ≤ c0) :
    Calls Tryd.prog 33 #[.slice A0 n0 c0] w fun e w' => e = .returned (.bool (Lib.validD l0)) ∧ Below w.heap.size w w' := by
  obtain ⟨ANS, hANS⟩ : ∃ ANS, Lib.validD l0 = ANS := ⟨_, rfl⟩
  rw [hANS]
  have HR0 := Lib.hid hr0
  have HT := Lib.hid hT
  have HA := Lib.hid hANS
  clear hr0 hT hANS
  go_enter Tryd.func33, Tryd.ntmps33
  go_wp2
  go_loopg [0] (n0 + 1) (fun gk s0 wx => Below w.heap.size w wx ∧ ∃ (A : Option Addr) (n : Nat) (l : List UInt8), s0 = .slice A n n ∧ Rd w w.heap.size A n l ∧ Lib.validD l = ANS ∧ n < gk ∧ n ≤ 1000000000000)
  case atStart => exact ⟨Below.refl _ _, A0, n0, l0, rfl, HR0.out, HA.out, by omega, hn0⟩
  case round =>
    obtain ⟨hbw, A, n, l, rfl, hr, hv, hg, hts⟩ := hrel
    clear HR0 HA hn0 hnc
    have HR := Lib.hid hr
    have HV := Lib.hid hv
    have HB := Lib.hid hbw
    clear hr hv hbw
    by_cases h0 : 0 < n
    · obtain ⟨g', rfl⟩ : ∃ g', gk = g' + 1 := ⟨gk - 1, by omega⟩
      have h0z : (0 : Int) < (n : Int) := by omega
      obtain ⟨ad, hA, hadb, hcell⟩ := HR.out.2 h0
      subst hA
      have HC := Lib.hid hcell; clear hcell
      have hx0lt := (l.getD 0 0).toNat_lt
      have k0 : wr.cell? ad = some (.int .u8 ((l.getD 0 0).toNat : Int)) := by
        have := HB.out.cell (p := ad.add 0) (by rw [add_block]; exact hadb)
        rw [HC.out 0 h0] at this
        exact this
      by_cases hasc : (l.getD 0 0).toNat < 128
      · as_aux_lemma =>
        have a1 : AscL l 1 := by
          intro b hb
          have hl : 0 < l.length := by rw [HR.out.1]; exact h0
          match l, hl with
          | x :: r, _ => simp at hb hasc; subst hb; exact hasc
        obtain ⟨A1, n1, hn1, hr1, hs1⟩ := cutN HR.out 1 1 rfl (by omega)
        have hn1a : n1 + 1 ≤ n := by omega
        have hn1b : n ≤ n1 + 1 := by omega
        have HR1 := Lib.hid hr1
        have HV1 := Lib.hid (skipL a1 HV.out)
        clear hn1 hr1 a1 HV HR HC
        generalize (l.getD 0 0).toNat = x0 at *
        generalize l.drop 1 = l1 at *
        by_cases c8 : 8 < n1
        · have c8z : (8 : Int) < (n1 : Int) := by omega
          obtain ⟨V1, lV1, kV1, cV1⟩ := word_at HR1.out (by omega)
          have CV1 := Lib.hid cV1
          have hand1 : bits .and .u64 (V1 : Int) 9259542123273814144 = ((V1 &&& 9259542123273814144 : Nat) : Int) := u64_and_nat V1 9259542123273814144 lV1 (by omega)
          have KV1 := Lib.hid kV1
          clear cV1 kV1
          obtain ⟨Z1, hZ1⟩ : ∃ Z1, V1 &&& 9259542123273814144 = Z1 := ⟨_, rfl⟩
          rw [hZ1] at hand1 KV1
          clear hZ1
          by_cases hz1 : Z1 = 0
          · have hz1b : ((Z1 : Int) == 0) = true := by simp [hz1]
            have a8 := KV1.out hz1
            obtain ⟨A2, n2, hn2, hr2, hs2⟩ := cutN HR1.out 8 8 rfl (by omega)
            have hn2a : n2 + 8 ≤ n1 := by omega
            have hn2b : n1 ≤ n2 + 8 := by omega
            have HR2 := Lib.hid hr2
            have HV2 := Lib.hid (skipL a8 HV1.out)
            clear hn2 hr2 a8 HV1 HR1 KV1 hz1
            generalize l1.drop 8 = l2 at *
            go_wp2_with (go_at_call 44; refine (CV1.out _ (by exact HB.out)).mono ?_; rintro e W1 ⟨rfl, q1, hq1⟩; have HB1 : Hid (Below w.heap.size w W1) := Lib.hid (by rw [hq1]; exact below_drewN HB.out q1); clear hq1)
            clear CV1 hand1
            by_cases c16 : 16 < n2
            · have c16z : (16 : Int) < (n2 : Int) := by omega
              obtain ⟨A3, n3, hn3, hr3, hs3⟩ := cutN HR2.out 8 8 rfl (by omega)
              have hn3a : n3 + 8 ≤ n2 := by omega
              have HR3 := Lib.hid hr3
              obtain ⟨V2, lV2, kV2, cV2⟩ := word_at HR2.out (by omega)
              obtain ⟨V3, lV3, kV3, cV3⟩ := word_at HR3.out (by omega)
              have CV2 := Lib.hid (fun k => cV2 _ (below_drewN HB1.out k))
              have CV3 := Lib.hid (fun k => cV3 _ (below_drewN HB1.out k))
              have hor2 : bits .or .u64 (V2 : Int) (V3 : Int) = ((V2 ||| V3 : Nat) : Int) := u64_or_nat V2 V3 lV2 lV3
              have lor2 : V2 ||| V3 < 18446744073709551616 := Nat.or_lt_two_pow (n := 64) lV2 lV3
              have hand2 : bits .and .u64 ((V2 ||| V3 : Nat) : Int) 9259542123273814144 = (((V2 ||| V3) &&& 9259542123273814144 : Nat) : Int) := u64_and_nat _ 9259542123273814144 lor2 (by omega)
              have KV := Lib.hid (show (V2 ||| V3) &&& 9259542123273814144 = 0 → AscL l2 16 from fun h0' => by
                obtain ⟨e1, e2⟩ := (Lib.or_mask V2 V3 _).1 h0'
                exact asc_addL l2 8 8 (kV2 e1) (kV3 e2))
              obtain ⟨O2, hO2⟩ : ∃ O2, V2 ||| V3 = O2 := ⟨_, rfl⟩
              rw [hO2] at hor2 hand2 KV
              obtain ⟨Z2, hZ2⟩ : ∃ Z2, O2 &&& 9259542123273814144 = Z2 := ⟨_, rfl⟩
              rw [hZ2] at hand2 KV
              clear kV2 kV3 lor2 hO2 hZ2 cV2 cV3 hr3 hn3
              by_cases hz2 : Z2 = 0
              · have hz2b : ((Z2 : Int) == 0) = true := by simp [hz2]
                have a16 := KV.out hz2
                obtain ⟨A4, n4, hn4, hr4, hs4⟩ := cutN HR2.out 16 16 rfl (by omega)
                have hn4a : n4 + 16 ≤ n2 := by omega
                have HR4 := Lib.hid hr4
                have HV4 := Lib.hid (skipL a16 HV2.out)
                clear hn4 hr4 a16 HV2 HR2 KV hz2 HR3
                generalize l2.drop 16 = l4 at *
                go_quiet (first | ((go_at_call 44; with_reducible refine Calls.quiet_of (CV2.out _))) | ((go_at_call 44; with_reducible refine Calls.quiet_of (CV3.out _))))
                have HB2 : Hid (Below w.heap.size w (W1.drewN nq)) := Lib.hid (below_drewN HB1.out nq)
                generalize W1.drewN nq = W2 at HB2 ⊢
                clear CV2 CV3 HB1 hand2 hor2
                go_wp2
                go_loopg [0] (n4 + 1) (fun g2 s0 wx => Below w.heap.size w wx ∧ ∃ (A : Option Addr) (n : Nat) (l : List UInt8), s0 = .slice A n n ∧ Rd w w.heap.size A n l ∧ Lib.validD l = ANS ∧ n < g2 ∧ n ≤ n4)
                case atStart => exact ⟨HB2.out, A4, n4, l4, rfl, HR4.out, HV4.out, by omega, Nat.le_refl _⟩
                case round =>
                  obtain ⟨hbu, Au, nu, lu, rfl, hru, vu, hgu, hut⟩ := hrel
                  have HBU := Lib.hid hbu
                  have HRU := Lib.hid hru
                  have HVU := Lib.hid vu
                  clear hbu hru vu HB2 HR4 HV4
                  by_cases c32 : 32 < nu
                  · obtain ⟨g3, rfl⟩ : ∃ g3, gk = g3 + 1 := ⟨gk - 1, by omega⟩
                    have c32z : (32 : Int) < (nu : Int) := by omega
                    obtain ⟨Ab, nb, hnb, hrb, hsb⟩ := cutN HRU.out 8 8 rfl (by omega)
                    obtain ⟨Ac, nc, hnc, hrc, hsc⟩ := cutN HRU.out 16 16 rfl (by omega)
                    obtain ⟨Ad, nd, hnd, hrd, hsd⟩ := cutN HRU.out 24 24 rfl (by omega)
                    obtain ⟨B0, lB0, kB0, cB0⟩ := word_at HRU.out (by omega)
                    obtain ⟨B1, lB1, kB1, cB1⟩ := word_at hrb (by omega)
                    obtain ⟨B2, lB2, kB2, cB2⟩ := word_at hrc (by omega)
                    obtain ⟨B3, lB3, kB3, cB3⟩ := word_at hrd (by omega)
                    have CB0 := Lib.hid (fun k => cB0 _ (below_drewN HBU.out k))
                    have CB1 := Lib.hid (fun k => cB1 _ (below_drewN HBU.out k))
                    have CB2 := Lib.hid (fun k => cB2 _ (below_drewN HBU.out k))
                    have CB3 := Lib.hid (fun k => cB3 _ (below_drewN HBU.out k))
                    have ho1 : bits .or .u64 (B0 : Int) (B1 : Int) = ((B0 ||| B1 : Nat) : Int) := u64_or_nat B0 B1 lB0 lB1
                    have ho2 : bits .or .u64 (B2 : Int) (B3 : Int) = ((B2 ||| B3 : Nat) : Int) := u64_or_nat B2 B3 lB2 lB3
                    have lo1 : B0 ||| B1 < 18446744073709551616 := Nat.or_lt_two_pow (n := 64) lB0 lB1
                    have lo2 : B2 ||| B3 < 18446744073709551616 := Nat.or_lt_two_pow (n := 64) lB2 lB3
                    have ho3 : bits .or .u64 ((B0 ||| B1 : Nat) : Int) ((B2 ||| B3 : Nat) : Int) = (((B0 ||| B1) ||| (B2 ||| B3) : Nat) : Int) := u64_or_nat _ _ lo1 lo2
                    have lo3 : (B0 ||| B1) ||| (B2 ||| B3) < 18446744073709551616 := Nat.or_lt_two_pow (n := 64) lo1 lo2
                    have hand3 : bits .and .u64 (((B0 ||| B1) ||| (B2 ||| B3) : Nat) : Int) 9259542123273814144 = ((((B0 ||| B1) ||| (B2 ||| B3)) &&& 9259542123273814144 : Nat) : Int) := u64_and_nat _ 9259542123273814144 lo3 (by omega)
                    have K3 := Lib.hid (show ((B0 ||| B1) ||| (B2 ||| B3)) &&& 9259542123273814144 = 0 → AscL lu 32 from fun h0' => by
                      obtain ⟨e01, e23⟩ := (Lib.or_mask _ _ _).1 h0'
                      obtain ⟨e0, e1⟩ := (Lib.or_mask _ _ _).1 e01
                      obtain ⟨e2, e3⟩ := (Lib.or_mask _ _ _).1 e23
                      exact asc_addL lu 24 8 (asc_addL lu 16 8 (asc_addL lu 8 8 (kB0 e0) (kB1 e1)) (kB2 e2)) (kB3 e3))
                    obtain ⟨P1, hP1⟩ : ∃ P1, B0 ||| B1 = P1 := ⟨_, rfl⟩
                    obtain ⟨P2, hP2⟩ : ∃ P2, B2 ||| B3 = P2 := ⟨_, rfl⟩
                    rw [hP1, hP2] at ho3 hand3 K3
                    rw [hP1] at ho1
                    rw [hP2] at ho2
                    obtain ⟨P3, hP3⟩ : ∃ P3, P1 ||| P2 = P3 := ⟨_, rfl⟩
                    rw [hP3] at ho3 hand3 K3
                    obtain ⟨Z3, hZ3⟩ : ∃ Z3, P3 &&& 9259542123273814144 = Z3 := ⟨_, rfl⟩
                    rw [hZ3] at hand3 K3
                    clear kB0 kB1 kB2 kB3 lo1 lo2 lo3 hP1 hP2 hP3 hZ3 cB0 cB1 cB2 cB3 hrb hrc hrd
                    have hb1 : nb + 8 ≤ nu := by omega
                    have hc1 : nc + 16 ≤ nu := by omega
                    have hd1 : nd + 24 ≤ nu := by omega
                    clear hnb hnc hnd
                    by_cases hz3 : Z3 = 0
                    · have hz3b : ((Z3 : Int) == 0) = true := by simp [hz3]
                      have a32 := K3.out hz3
                      obtain ⟨Ae, ne, hne, hre, hse⟩ := cutN HRU.out 32 32 rfl (by omega)
                      have hne1 : ne + 32 ≤ nu := by omega
                      have HRE := Lib.hid hre
                      have HVE := Lib.hid (skipL a32 HVU.out)
                      clear hne hre a32 HVU HRU K3 hz3
                      generalize lu.drop 32 = le at *
                      go_wp2_with fail
                      go_quiet (first | ((go_at_call 44; with_reducible refine Calls.quiet_of (CB0.out _))) | ((go_at_call 44; with_reducible refine Calls.quiet_of (CB1.out _))) | ((go_at_call 44; with_reducible refine Calls.quiet_of (CB2.out _))) | ((go_at_call 44; with_reducible refine Calls.quiet_of (CB3.out _))))
                      go_wp2
                      go_roundg g3
                      case measure => omega
                      case rel => exact ⟨below_drewN HBU.out nq, Ae, ne, le, rfl, HRE.out, HVE.out, by omega, by omega⟩
                    · have hz3b : ((Z3 : Int) == 0) = false := by simp; omega
                      go_wp2_with fail
                      go_quiet (first | ((go_at_call 44; with_reducible refine Calls.quiet_of (CB0.out _))) | ((go_at_call 44; with_reducible refine Calls.quiet_of (CB1.out _))) | ((go_at_call 44; with_reducible refine Calls.quiet_of (CB2.out _))) | ((go_at_call 44; with_reducible refine Calls.quiet_of (CB3.out _))))
                      go_wp2
                      go_roundg g'
                      case measure => omega
                      case rel => exact ⟨below_drewN HBU.out nq, Au, nu, lu, rfl, HRU.out, HVU.out, by omega, by omega⟩
                  · have c32z : ¬ ((32 : Int) < (nu : Int)) := by omega
                    have c32b : decide ((32 : Int) < (nu : Int)) = false := decide_eq_false c32z
                    go_wp2_with fail
                    go_quiet (fail)
                    go_wp2
                    go_roundg g'
                    case measure => omega
                    case rel => exact ⟨below_drewN HBU.out nq, Au, nu, lu, rfl, HRU.out, HVU.out, by omega, by omega⟩
              · have hz2b : ((Z2 : Int) == 0) = false := by simp; omega
                go_quiet (first | ((go_at_call 44; with_reducible refine Calls.quiet_of (CV2.out _))) | ((go_at_call 44; with_reducible refine Calls.quiet_of (CV3.out _))))
                go_wp2
                go_roundg g'
                case measure => omega
                case rel => exact ⟨below_drewN HB1.out nq, A2, n2, l2, rfl, HR2.out, HV2.out, by omega, by omega⟩
            · have c16z : ¬ ((16 : Int) < (n2 : Int)) := by omega
              have c16b : decide ((16 : Int) < (n2 : Int)) = false := decide_eq_false c16z
              go_quiet (fail)
              go_wp2
              go_roundg g'
              case measure => omega
              case rel => exact ⟨below_drewN HB1.out nq, A2, n2, l2, rfl, HR2.out, HV2.out, by omega, by omega⟩
          · have hz1b : ((Z1 : Int) == 0) = false := by simp; omega
            go_wp2_with (go_at_call 44; refine (CV1.out _ (by exact HB.out)).mono ?_; rintro e W1 ⟨rfl, q1, hq1⟩; have HB1 : Hid (Below w.heap.size w W1) := Lib.hid (by rw [hq1]; exact below_drewN HB.out q1); clear hq1)
            go_roundg g'
            case measure => omega
            case rel => exact ⟨HB1.out, A1, n1, l1, rfl, HR1.out, HV1.out, by omega, by omega⟩
        · have c8z : ¬ ((8 : Int) < (n1 : Int)) := by omega
          go_wp2
          go_roundg g'
          case measure => omega
          case rel => exact ⟨HB.out, A1, n1, l1, rfl, HR1.out, HV1.out, by omega, by omega⟩
      · have hge : 128 ≤ (l.getD 0 0).toNat := by omega
        have hne : l ≠ [] := fun h => by have := HR.out.1; rw [h] at this; simp at this; omega
        have hlead := Lib.validD_lead l hne hge
        rw [HV.out, HR.out.1] at hlead
        have hbx := HB.out.size
        have hc0 := (HT.out.below HB.out HT.out.room).first (l.getD 0 0).toNat hx0lt
        have hXlt := first_lt (l.getD 0 0).toNat
        have hacc := (HT.out.below HB.out HT.out.room).acc (Lib.firstT (l.getD 0 0).toNat / 16) (by omega)
        obtain ⟨ha0, ha1⟩ := hacc
        obtain ⟨X, hX⟩ : ∃ X, Lib.firstT (l.getD 0 0).toNat = X := ⟨_, rfl⟩
        rw [hX] at hc0 hXlt hlead ha0 ha1
        have h7 := and7v ⟨X, hXlt⟩
        simp only at h7
        obtain ⟨LO, hLO⟩ : ∃ LO, Lib.accLo (X / 16) = LO := ⟨_, rfl⟩
        obtain ⟨HI, hHI⟩ : ∃ HI, Lib.accHi (X / 16) = HI := ⟨_, rfl⟩
        rw [hLO] at ha0 hlead
        rw [hHI] at ha1 hlead
        obtain ⟨SZ, hSZ⟩ : ∃ SZ, X % 8 = SZ := ⟨_, rfl⟩
        rw [hSZ] at hlead
        have hcj : ∀ j, 1 ≤ j → j < n → ∀ Y : World, Below w.heap.size w Y → Y.cell? ⟨ad.block, ad.off + j, none⟩ = some (.int .u8 ((l.getD j 0).toNat : Int)) := fun j h1 hj Y hY => by
          have := hY.cell (p := ad.add j) (by rw [add_block]; exact hadb)
          rw [HC.out j hj] at this
          rw [← this]
          congr 1
          unfold Addr.add
          rw [if_neg (by omega)]
        have HCJ := Lib.hid hcj
        have HL := Lib.hid hlead
        clear hX hLO hHI hne HV hcj HC hlead
        obtain ⟨x0, hx0⟩ : ∃ x0, (l.getD 0 0).toNat = x0 := ⟨_, rfl⟩
        obtain ⟨x1, hx1⟩ : ∃ x1, (l.getD 1 0).toNat = x1 := ⟨_, rfl⟩
        obtain ⟨x2, hx2⟩ : ∃ x2, (l.getD 2 0).toNat = x2 := ⟨_, rfl⟩
        obtain ⟨x3, hx3⟩ : ∃ x3, (l.getD 3 0).toNat = x3 := ⟨_, rfl⟩
        rw [hx0] at k0 hc0 hx0lt hge
        rw [hx1, hx2, hx3] at HL
        have hascz : ¬ ((x0 : Int) < 128) := by omega
        clear hx0 hasc
        have hbal := HB.out.alloc hbx (.cells #[.int .u8 LO, .int .u8 HI] 86)
        have hal0 : (wr.alloc (.cells #[.int .u8 LO, .int .u8 HI] 86)).cell? ⟨wr.heap.size, 0, none⟩ = some (.int .u8 LO) := (Blk.new wr 86 #[.int .u8 LO, .int .u8 HI]).cell 0
        have hal1 : (wr.alloc (.cells #[.int .u8 LO, .int .u8 HI] 86)).cell? ⟨wr.heap.size, 1, none⟩ = some (.int .u8 HI) := (Blk.new wr 86 #[.int .u8 LO, .int .u8 HI]).cell 1
        obtain ⟨WA, hWA⟩ : ∃ WA, wr.alloc (.cells #[.int .u8 LO, .int .u8 HI] 86) = WA := ⟨_, rfl⟩
        rw [hWA] at hal0 hal1 hbal
        have HWA := Lib.hid hWA
        have HBA := Lib.hid hbal
        clear hWA hbal
        by_cases s2 : SZ = 2
        · as_aux_lemma =>
          subst s2
          have hSZz : (X : Int) % 8 = 2 := by omega
          have HL2 := Lib.hid (by have := HL.out; simp only [Lib.checkN, Nat.reduceEqDiff, if_true, if_false] at this; exact this)
          clear HL
          go_upto_region 18 with fail
          rw [HWA.out]
          clear HWA k0 hc0 ha0 ha1 h7 HT
          go_cut [103] from 85 to 103 (fun c wx => c = .bool (decide (n < 2 ∨ x1 < LO ∨ HI < x1)) ∧ Below w.heap.size w wx)
          case first =>
            as_aux_lemma =>
            clear HL2 HB HR
            by_cases q0 : n < 2
            · have q0z : (n : Int) < (2 : Int) := by omega
              go_quiet (fail)
              go_wp2
              go_meet
              exact ⟨congrArg Value.bool (decide_eq_true (p := n < 2 ∨ x1 < LO ∨ HI < x1) (by omega)).symm, below_drewN HBA.out _⟩
            · have q0z : ¬ ((n : Int) < (2 : Int)) := by omega
              have hz1 : (1 : Int) < (n : Int) := by omega
              have hp1 : 1 < n := by omega
              have hs1 := HCJ.out 1 (by omega) (by omega) WA HBA.out
              rw [hx1] at hs1
              clear HCJ hx1 hx2 hx3
              by_cases q1 : x1 < LO
              · have q1z : (x1 : Int) < (LO : Int) := by omega
                go_quiet (fail)
                go_wp2
                go_meet
                exact ⟨congrArg Value.bool (decide_eq_true (p := n < 2 ∨ x1 < LO ∨ HI < x1) (by omega)).symm, below_drewN HBA.out _⟩
              · have q1z : ¬ ((x1 : Int) < (LO : Int)) := by omega
                by_cases q2 : HI < x1
                · have q2z : (HI : Int) < (x1 : Int) := by omega
                  go_quiet (fail)
                  go_wp2
                  go_meet
                  exact ⟨congrArg Value.bool (decide_eq_true (p := n < 2 ∨ x1 < LO ∨ HI < x1) (by omega)).symm, below_drewN HBA.out _⟩
                · have q2z : ¬ ((HI : Int) < (x1 : Int)) := by omega
                  go_quiet (fail)
                  go_wp2
                  go_meet
                  exact ⟨congrArg Value.bool (decide_eq_false (p := n < 2 ∨ x1 < LO ∨ HI < x1) (by omega)).symm, below_drewN HBA.out _⟩
          case rest =>
            as_aux_lemma =>
            obtain ⟨rfl, hbc⟩ := hcut
            have HBC := Lib.hid hbc; clear hbc
            by_cases hb : n < 2 ∨ x1 < LO ∨ HI < x1
            · have hbd : decide (n < 2 ∨ x1 < LO ∨ HI < x1) = true := decide_eq_true hb
              have HL3 := HL2.out
              rw [if_pos hb] at HL3
              have HL4 := Lib.hid HL3; clear HL3 HL2
              go_wp2
              all_goals (go_ret; exact ⟨by rw [HL4.out]; rfl, HBC.out⟩)
            · have hbd : decide (n < 2 ∨ x1 < LO ∨ HI < x1) = false := decide_eq_false hb
              have HL3 := HL2.out
              rw [if_neg hb] at HL3
              have HL4 := Lib.hid HL3; clear HL3 HL2
              obtain ⟨A1, n1, hn1, hr1, hs1⟩ := cutN HR.out 2 2 rfl (by omega)
              have hn1a : n1 + 2 ≤ n := by omega
              have HR1 := Lib.hid hr1
              clear hn1 hr1
              go_wp2
              go_roundg g'
              case measure => omega
              case rel => exact ⟨HBC.out, A1, n1, _, rfl, HR1.out, HL4.out.symm, by omega, by omega⟩
        by_cases s3 : SZ = 3
        · as_aux_lemma =>
          subst s3
          have hSZz : (X : Int) % 8 = 3 := by omega
          have HL2 := Lib.hid (by have := HL.out; simp only [Lib.checkN, Nat.reduceEqDiff, if_true, if_false] at this; exact this)
          clear HL
          go_upto_region 22 with fail
          rw [HWA.out]
          clear HWA k0 hc0 ha0 ha1 h7 HT
          go_cut [138] from 108 to 138 (fun c wx => c = .bool (decide (n < 3 ∨ x1 < LO ∨ HI < x1 ∨ x2 < 128 ∨ 191 < x2)) ∧ Below w.heap.size w wx)
          case first =>
            as_aux_lemma =>
            clear HL2 HB HR
            by_cases q0 : n < 3
            · have q0z : (n : Int) < (3 : Int) := by omega
              go_quiet (fail)
              go_wp2
              go_meet
              exact ⟨congrArg Value.bool (decide_eq_true (p := n < 3 ∨ x1 < LO ∨ HI < x1 ∨ x2 < 128 ∨ 191 < x2) (by omega)).symm, below_drewN HBA.out _⟩
            · have q0z : ¬ ((n : Int) < (3 : Int)) := by omega
              have hz1 : (1 : Int) < (n : Int) := by omega
              have hp1 : 1 < n := by omega
              have hs1 := HCJ.out 1 (by omega) (by omega) WA HBA.out
              rw [hx1] at hs1
              have hz2 : (2 : Int) < (n : Int) := by omega
              have hp2 : 2 < n := by omega
              have hs2 := HCJ.out 2 (by omega) (by omega) WA HBA.out
              rw [hx2] at hs2
              clear HCJ hx1 hx2 hx3
              by_cases q1 : x1 < LO
              · have q1z : (x1 : Int) < (LO : Int) := by omega
                go_quiet (fail)
                go_wp2
                go_meet
                exact ⟨congrArg Value.bool (decide_eq_true (p := n < 3 ∨ x1 < LO ∨ HI < x1 ∨ x2 < 128 ∨ 191 < x2) (by omega)).symm, below_drewN HBA.out _⟩
              · have q1z : ¬ ((x1 : Int) < (LO : Int)) := by omega
                by_cases q2 : HI < x1
                · have q2z : (HI : Int) < (x1 : Int) := by omega
                  go_quiet (fail)
                  go_wp2
                  go_meet
                  exact ⟨congrArg Value.bool (decide_eq_true (p := n < 3 ∨ x1 < LO ∨ HI < x1 ∨ x2 < 128 ∨ 191 < x2) (by omega)).symm, below_drewN HBA.out _⟩
                · have q2z : ¬ ((HI : Int) < (x1 : Int)) := by omega
                  by_cases q3 : x2 < 128
                  · have q3z : (x2 : Int) < (128 : Int) := by omega
                    go_quiet (fail)
                    go_wp2
                    go_meet
                    exact ⟨congrArg Value.bool (decide_eq_true (p := n < 3 ∨ x1 < LO ∨ HI < x1 ∨ x2 < 128 ∨ 191 < x2) (by omega)).symm, below_drewN HBA.out _⟩
                  · have q3z : ¬ ((x2 : Int) < (128 : Int)) := by omega
                    by_cases q4 : 191 < x2
                    · have q4z : (191 : Int) < (x2 : Int) := by omega
                      go_quiet (fail)
                      go_wp2
                      go_meet
                      exact ⟨congrArg Value.bool (decide_eq_true (p := n < 3 ∨ x1 < LO ∨ HI < x1 ∨ x2 < 128 ∨ 191 < x2) (by omega)).symm, below_drewN HBA.out _⟩
                    · have q4z : ¬ ((191 : Int) < (x2 : Int)) := by omega
                      go_quiet (fail)
                      go_wp2
                      go_meet
                      exact ⟨congrArg Value.bool (decide_eq_false (p := n < 3 ∨ x1 < LO ∨ HI < x1 ∨ x2 < 128 ∨ 191 < x2) (by omega)).symm, below_drewN HBA.out _⟩
          case rest =>
            as_aux_lemma =>
            obtain ⟨rfl, hbc⟩ := hcut
            have HBC := Lib.hid hbc; clear hbc
            by_cases hb : n < 3 ∨ x1 < LO ∨ HI < x1 ∨ x2 < 128 ∨ 191 < x2
            · have hbd : decide (n < 3 ∨ x1 < LO ∨ HI < x1 ∨ x2 < 128 ∨ 191 < x2) = true := decide_eq_true hb
              have HL3 := HL2.out
              rw [if_pos hb] at HL3
              have HL4 := Lib.hid HL3; clear HL3 HL2
              go_wp2
              all_goals (go_ret; exact ⟨by rw [HL4.out]; rfl, HBC.out⟩)
            · have hbd : decide (n < 3 ∨ x1 < LO ∨ HI < x1 ∨ x2 < 128 ∨ 191 < x2) = false := decide_eq_false hb
              have HL3 := HL2.out
              rw [if_neg hb] at HL3
              have HL4 := Lib.hid HL3; clear HL3 HL2
              obtain ⟨A1, n1, hn1, hr1, hs1⟩ := cutN HR.out 3 3 rfl (by omega)
              have hn1a : n1 + 3 ≤ n := by omega
              have HR1 := Lib.hid hr1
              clear hn1 hr1
              go_wp2
              go_roundg g'
              case measure => omega
              case rel => exact ⟨HBC.out, A1, n1, _, rfl, HR1.out, HL4.out.symm, by omega, by omega⟩
        by_cases s4 : SZ = 4
        · as_aux_lemma =>
          subst s4
          have hSZz : (X : Int) % 8 = 4 := by omega
          have HL2 := Lib.hid (by have := HL.out; simp only [Lib.checkN, Nat.reduceEqDiff, if_true, if_false] at this; exact this)
          clear HL
          go_upto_region 26 with fail
          rw [HWA.out]
          clear HWA k0 hc0 ha0 ha1 h7 HT
          go_cut [185] from 143 to 185 (fun c wx => c = .bool (decide (n < 4 ∨ x1 < LO ∨ HI < x1 ∨ x2 < 128 ∨ 191 < x2 ∨ x3 < 128 ∨ 191 < x3)) ∧ Below w.heap.size w wx)
          case first =>
            as_aux_lemma =>
            clear HL2 HB HR
            by_cases q0 : n < 4
            · have q0z : (n : Int) < (4 : Int) := by omega
              go_quiet (fail)
              go_wp2
              go_meet
              exact ⟨congrArg Value.bool (decide_eq_true (p := n < 4 ∨ x1 < LO ∨ HI < x1 ∨ x2 < 128 ∨ 191 < x2 ∨ x3 < 128 ∨ 191 < x3) (by omega)).symm, below_drewN HBA.out _⟩
            · have q0z : ¬ ((n : Int) < (4 : Int)) := by omega
              have hz1 : (1 : Int) < (n : Int) := by omega
              have hp1 : 1 < n := by omega
              have hs1 := HCJ.out 1 (by omega) (by omega) WA HBA.out
              rw [hx1] at hs1
              have hz2 : (2 : Int) < (n : Int) := by omega
              have hp2 : 2 < n := by omega
              have hs2 := HCJ.out 2 (by omega) (by omega) WA HBA.out
              rw [hx2] at hs2
              have hz3 : (3 : Int) < (n : Int) := by omega
              have hp3 : 3 < n := by omega
              have hs3 := HCJ.out 3 (by omega) (by omega) WA HBA.out
              rw [hx3] at hs3
              clear HCJ hx1 hx2 hx3
              by_cases q1 : x1 < LO
              · have q1z : (x1 : Int) < (LO : Int) := by omega
                go_quiet (fail)
                go_wp2
                go_meet
                exact ⟨congrArg Value.bool (decide_eq_true (p := n < 4 ∨ x1 < LO ∨ HI < x1 ∨ x2 < 128 ∨ 191 < x2 ∨ x3 < 128 ∨ 191 < x3) (by omega)).symm, below_drewN HBA.out _⟩
              · have q1z : ¬ ((x1 : Int) < (LO : Int)) := by omega
                by_cases q2 : HI < x1
                · have q2z : (HI : Int) < (x1 : Int) := by omega
                  go_quiet (fail)
                  go_wp2
                  go_meet
                  exact ⟨congrArg Value.bool (decide_eq_true (p := n < 4 ∨ x1 < LO ∨ HI < x1 ∨ x2 < 128 ∨ 191 < x2 ∨ x3 < 128 ∨ 191 < x3) (by omega)).symm, below_drewN HBA.out _⟩
                · have q2z : ¬ ((HI : Int) < (x1 : Int)) := by omega
                  by_cases q3 : x2 < 128
                  · have q3z : (x2 : Int) < (128 : Int) := by omega
                    go_quiet (fail)
                    go_wp2
                    go_meet
                    exact ⟨congrArg Value.bool (decide_eq_true (p := n < 4 ∨ x1 < LO ∨ HI < x1 ∨ x2 < 128 ∨ 191 < x2 ∨ x3 < 128 ∨ 191 < x3) (by omega)).symm, below_drewN HBA.out _⟩
                  · have q3z : ¬ ((x2 : Int) < (128 : Int)) := by omega
                    by_cases q4 : 191 < x2
                    · have q4z : (191 : Int) < (x2 : Int) := by omega
                      go_quiet (fail)
                      go_wp2
                      go_meet
                      exact ⟨congrArg Value.bool (decide_eq_true (p := n < 4 ∨ x1 < LO ∨ HI < x1 ∨ x2 < 128 ∨ 191 < x2 ∨ x3 < 128 ∨ 191 < x3) (by omega)).symm, below_drewN HBA.out _⟩
                    · have q4z : ¬ ((191 : Int) < (x2 : Int)) := by omega
                      by_cases q5 : x3 < 128
                      · have q5z : (x3 : Int) < (128 : Int) := by omega
                        go_quiet (fail)
                        go_wp2
                        go_meet
                        exact ⟨congrArg Value.bool (decide_eq_true (p := n < 4 ∨ x1 < LO ∨ HI < x1 ∨ x2 < 128 ∨ 191 < x2 ∨ x3 < 128 ∨ 191 < x3) (by omega)).symm, below_drewN HBA.out _⟩
                      · have q5z : ¬ ((x3 : Int) < (128 : Int)) := by omega
                        by_cases q6 : 191 < x3
                        · have q6z : (191 : Int) < (x3 : Int) := by omega
                          go_quiet (fail)
                          go_wp2
                          go_meet
                          exact ⟨congrArg Value.bool (decide_eq_true (p := n < 4 ∨ x1 < LO ∨ HI < x1 ∨ x2 < 128 ∨ 191 < x2 ∨ x3 < 128 ∨ 191 < x3) (by omega)).symm, below_drewN HBA.out _⟩
                        · have q6z : ¬ ((191 : Int) < (x3 : Int)) := by omega
                          go_quiet (fail)
                          go_wp2
                          go_meet
                          exact ⟨congrArg Value.bool (decide_eq_false (p := n < 4 ∨ x1 < LO ∨ HI < x1 ∨ x2 < 128 ∨ 191 < x2 ∨ x3 < 128 ∨ 191 < x3) (by omega)).symm, below_drewN HBA.out _⟩
          case rest =>
            as_aux_lemma =>
            obtain ⟨rfl, hbc⟩ := hcut
            have HBC := Lib.hid hbc; clear hbc
            by_cases hb : n < 4 ∨ x1 < LO ∨ HI < x1 ∨ x2 < 128 ∨ 191 < x2 ∨ x3 < 128 ∨ 191 < x3
            · have hbd : decide (n < 4 ∨ x1 < LO ∨ HI < x1 ∨ x2 < 128 ∨ 191 < x2 ∨ x3 < 128 ∨ 191 < x3) = true := decide_eq_true hb
              have HL3 := HL2.out
              rw [if_pos hb] at HL3
              have HL4 := Lib.hid HL3; clear HL3 HL2
              go_wp2
              all_goals (go_ret; exact ⟨by rw [HL4.out]; rfl, HBC.out⟩)
            · have hbd : decide (n < 4 ∨ x1 < LO ∨ HI < x1 ∨ x2 < 128 ∨ 191 < x2 ∨ x3 < 128 ∨ 191 < x3) = false := decide_eq_false hb
              have HL3 := HL2.out
              rw [if_neg hb] at HL3
              have HL4 := Lib.hid HL3; clear HL3 HL2
              obtain ⟨A1, n1, hn1, hr1, hs1⟩ := cutN HR.out 4 4 rfl (by omega)
              have hn1a : n1 + 4 ≤ n := by omega
              have HR1 := Lib.hid hr1
              clear hn1 hr1
              go_wp2
              go_roundg g'
              case measure => omega
              case rel => exact ⟨HBC.out, A1, n1, _, rfl, HR1.out, HL4.out.symm, by omega, by omega⟩
        · have e2b : (((X : Int) % 8) == 2) = false := by simp; omega
          have e3b : (((X : Int) % 8) == 3) = false := by simp; omega
          have e4b : (((X : Int) % 8) == 4) = false := by simp; omega
          have HL2 := Lib.hid (by have := HL.out; simp only [Lib.checkN, s2, s3, s4, if_false] at this; exact this)
          clear HL HCJ
          have HBA2 := HBA
          rw [← HWA.out] at HBA2
          clear hal0 hal1 HWA HBA
          go_wp2
          all_goals (go_ret; exact ⟨by rw [HL2.out]; rfl, HBA2.out⟩)
    · have h0z : ¬ ((0 : Int) < (n : Int)) := by omega
      have ht0 : l = [] := List.eq_nil_of_length_eq_zero (by rw [HR.out.1]; omega)
      have HV2 := Lib.hid (show true = ANS by have := HV.out; rw [ht0, Lib.validD_nil] at this; exact this)
      clear ht0 HV HR
      go_wp2
      go_ret
      exact ⟨by rw [← HV2.out]; rfl, HB.out⟩

end Go.Proofs.YtnahkhiomnkbcaaDoor
