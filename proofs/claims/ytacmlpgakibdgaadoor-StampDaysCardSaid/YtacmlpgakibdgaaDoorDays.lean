/-
  StampDays: its walk.
-/
import Derived.Test.YtacmlpgakibdgaaDoorFst
import Derived.IntWalk
namespace Go.Proofs.YtacmlpgakibdgaaDoor
open Go.RowKit Go.Own Go.Own.Dig Go.Own.Alg

theorem and_bd (n : Int) (M : Nat) (hM : M < 9223372036854775808) : ∃ N : Nat, N ≤ M ∧ bits .and .i64 n (M : Int) = (N : Int) := by
  have hm : (BitVec.ofInt 64 (M : Int)).toNat = M := by rw [BitVec.toNat_ofInt]; omega
  have hle : (BitVec.ofInt 64 n &&& BitVec.ofInt 64 (M : Int)).toNat ≤ M := by
    rw [BitVec.toNat_and, hm]
    exact Nat.and_le_right
  refine ⟨(BitVec.ofInt 64 n &&& BitVec.ofInt 64 (M : Int)).toNat, hle, ?_⟩
  show IntKind.i64.wrap ((BitVec.ofInt 64 n &&& BitVec.ofInt 64 (M : Int)).toNat : Int) = _
  rw [IntKind.wrap_i64]
  omega

theorem day_later {s y m d h i e y' m' d' h' i' e' : Int} (a : Cal.DateOf s y m d h i e) (b : Cal.DateOf (s + 86400) y' m' d' h' i' e') : h' = h ∧ i' = i ∧ e' = e ∧
    ((y' = y ∧ m' = m ∧ d' = d + 1 ∧ d' ≤ 31) ∨ (y' = y ∧ m' = m + 1 ∧ d' = 1 ∧ 28 ≤ d) ∨ (y' = y + 1 ∧ m = 12 ∧ m' = 1 ∧ d = 31 ∧ d' = 1)) := by
  obtain ⟨aD, a1, a2, a3, a4, a5, a6, a7⟩ := a
  obtain ⟨bD, b1, b2, b3, b4, b5, b6, b7⟩ := b
  have hn : Cal.dn y' m' d' = Cal.dn y m d + 1 := by omega
  refine ⟨by omega, by omega, by omega, Cal.next_day aD bD hn⟩

theorem add_day {s : Int} (h1 : -62135596800 ≤ s) (h2 : s + 86400 ≤ 253402300799) : addT s 0 86400 0 = some (s + 86400, 0) := by
  have e : addN s 0 86400 0 = (s + 86400, 0) := by unfold addN; rw [if_neg (by omega), if_neg (by omega)]; rfl
  unfold addT
  rw [e, if_pos ⟨by unfold okT; simp; omega, by decide, by unfold okT; simp; omega⟩]

set_option maxHeartbeats 4000000 in
set_option maxRecDepth 100000 in
theorem stampDays_any (n0 s0 : Int) (w : World) (ev : Addr) (he : EnvS w ev) :
    Calls Tryd.prog 3 #[.int .i64 n0, .int .i64 s0] w fun e w' => e = .returned (.bool true) ∧ Below w.heap.size w w' := by
  have HE := Lib.hid he
  have h8 := he.room
  clear he
  obtain ⟨N, hN, aN⟩ := and_bd n0 8388607 (by omega)
  obtain ⟨S, hS, aS⟩ := and_bd s0 65535 (by omega)
  have aN' : bits .and .i64 n0 8388607 = (N : Int) := aN
  have aS' : bits .and .i64 s0 65535 = (S : Int) := aS
  clear aN aS
  go_enter Tryd.func3, Tryd.ntmps3
  go_wp2_with fail
  refine (first_any _ ev HE.out).mono ?_
  rintro x w1 ⟨rfl, hb1⟩
  have HB1 := Lib.hid hb1
  have hs1 := hb1.size
  clear hb1
  go_wp2_with fail
  have bs : -62135596800 ≤ -62135596800 + (N : Int) % 3652058 * 86400 + (S : Int) ∧ -62135596800 + (N : Int) % 3652058 * 86400 + (S : Int) + 86400 ≤ 253402300799 := by omega
  obtain ⟨s, hsd⟩ : ∃ s, -62135596800 + (N : Int) % 3652058 * 86400 + (S : Int) = s := ⟨_, rfl⟩
  rw [hsd] at bs ⊢
  clear hsd hN hS aN' aS'
  obtain ⟨b1, b2⟩ := bs
  have HV1 : Hid (okT s 0 = true) := Lib.hid (by unfold okT; simp; omega)
  have HV2 : Hid (okT (s + 86400) 0 = true) := Lib.hid (by unfold okT; simp; omega)
  have HA := Lib.hid (add_day b1 b2)
  have hbt := Blk.new w1 24 #[.int .i64 s, .int .i64 0]
  have HBT := Lib.hid hbt
  have HB2 := Lib.hid (HB1.out.alloc hs1 (.cells #[.int .i64 s, .int .i64 0] 24))
  clear hbt
  generalize w1.alloc _ = w2 at HBT HB2 ⊢
  have hs2 := HB2.out.size
  refine (date_yes s 0 _ HV1.out).mono ?_
  rintro x w3 ⟨g, y, m, d, h, i, e, rfl, hd, hbk, hg, hb⟩
  have HD1 := Lib.hid hd
  have HK1 := Lib.hid hbk
  have HB3 := Lib.hid (HB2.out.trans (hb.mono hs2))
  have hbt3 := HBT.out.below hb HBT.out.lt
  have hs3 := HB3.out.size
  have hlt3 := hbt3.lt
  have HBT3 := Lib.hid hbt3
  have t0 : w3.cell? ⟨w1.heap.size, 0, none⟩ = some (.int .i64 s) := hbt3.cell 0
  have t1 : w3.cell? ⟨w1.heap.size, 1, none⟩ = some (.int .i64 0) := hbt3.cell 1
  clear hd hbk hb hbt3 HBT
  go_wp2_with fail
  refine (add_any s 0 86400 0 _ ev (by exact HE.out.below HB3.out h8)).mono ?_
  rw [HA.out]
  simp only [resT]
  rintro x w4 ⟨rfl, hb⟩
  have HB4 := Lib.hid (HB3.out.trans (hb.mono hs3))
  have HK4 := Lib.hid (HK1.out.below hb HK1.out.lt)
  have hs4 := HB4.out.size
  clear hb HK1 t0 t1 HBT3
  go_wp2_with fail
  have HB5 := Lib.hid (HB4.out.alloc hs4 (.cells #[.int .i64 (s + 86400), .int .i64 0] 24))
  have HK5 := Lib.hid (HK4.out.alloc (.cells #[.int .i64 (s + 86400), .int .i64 0] 24))
  clear HK4
  generalize w4.alloc _ = w5 at HB5 HK5 ⊢
  have hs5 := HB5.out.size
  refine (date_yes (s + 86400) 0 _ HV2.out).mono ?_
  rintro x w6 ⟨g', y', m', d', h', i', e', rfl, hd, hbk, hg', hb⟩
  obtain ⟨rfl, rfl, rfl, hcase⟩ := day_later HD1.out hd
  have yb : 1 ≤ y ∧ y ≤ 9999 := ⟨HD1.out.date.y1, HD1.out.date.y2⟩
  have mb : 1 ≤ m ∧ m ≤ 12 := ⟨HD1.out.date.m1, HD1.out.date.m2⟩
  have db : 1 ≤ d ∧ d ≤ 31 := ⟨HD1.out.date.d1, by have := HD1.out.date.d2; have := Cal.mlen_bd y m; omega⟩
  obtain ⟨yb1, yb2⟩ := yb
  obtain ⟨mb1, mb2⟩ := mb
  obtain ⟨db1, db2⟩ := db
  have HK6 := Lib.hid (HK5.out.below hb HK5.out.lt)
  have HK' := Lib.hid hbk
  have HB6 := Lib.hid (HB5.out.trans (hb.mono hs5))
  clear hd hbk hb HK5 HD1
  go_wp2_with fail
  go_loopw [13] (fun ix wr => ∃ k n : Nat, 3 ≤ k ∧ k ≤ 6 ∧ ix = .int .i64 k ∧ wr = w6.drewN n) (fun ix _ => 6 - (intOf ix).toNat)
  case atStart => exact ⟨3, 0, by omega, by omega, rfl, rfl⟩
  case round =>
    obtain ⟨k, n, hk1, hk2, rfl, hw⟩ := hrel
    have hk' : k = 3 ∨ k = 4 ∨ k = 5 ∨ k = 6 := by omega
    have HBR : Hid (Below w.heap.size w wr) := Lib.hid (by rw [hw]; exact below_drewN HB6.out n)
    have a := HK6.out.drewN n
    have b := HK'.out.drewN n
    rw [← hw] at a b
    obtain ⟨a0, a1, a2, a3, a4, a5⟩ := six_of a
    obtain ⟨c0, c1, c2, c3, c4, c5⟩ := six_of b
    have HW := Lib.hid hw
    clear hk1 hk2 hw a b
    rcases hk' with rfl | rfl | rfl | rfl
    case inr.inr.inr =>
      rcases hcase with ⟨rfl, rfl, rfl, hd31⟩ | ⟨rfl, rfl, rfl, hd28⟩ | ⟨rfl, rfl, rfl, rfl, rfl⟩
      · have q1 : ((m' : Int) == m' + 1) = false := by simp; omega
        have q2 : ((y' : Int) == y' + 1) = false := by simp; omega
        have wd : IntKind.i64.wrap (d + 1) = d + 1 := IntWalk.i64_in _ (by omega)
        have wm : IntKind.i64.wrap (m' + 1) = m' + 1 := IntWalk.i64_in _ (by omega)
        have wy : IntKind.i64.wrap (y' + 1) = y' + 1 := IntWalk.i64_in _ (by omega)
        go_wp2_with fail
        go_quiet (fail)
        go_wp2_with fail
        go_quiet (fail)
        go_wp2_with fail
        go_quiet (fail)
        go_wp2
        go_ret
        exact ⟨rfl, (by repeat (first | exact HBR.out | refine below_drewN ?_ _))⟩
      · have q1 : ((m + 1 : Int) == m) = false := by simp; omega
        have q2 : ((y' : Int) == y' + 1) = false := by simp; omega
        have wd : IntKind.i64.wrap (d + 1) = d + 1 := IntWalk.i64_in _ (by omega)
        have wm : IntKind.i64.wrap (m + 1) = m + 1 := IntWalk.i64_in _ (by omega)
        have wy : IntKind.i64.wrap (y' + 1) = y' + 1 := IntWalk.i64_in _ (by omega)
        go_wp2_with fail
        go_quiet (fail)
        go_wp2_with fail
        go_quiet (fail)
        go_wp2_with fail
        go_quiet (fail)
        go_wp2
        go_ret
        exact ⟨rfl, (by repeat (first | exact HBR.out | refine below_drewN ?_ _))⟩
      · have q1 : ((y + 1 : Int) == y) = false := by simp; omega
        have wy : IntKind.i64.wrap (y + 1) = y + 1 := IntWalk.i64_in _ (by omega)
        go_wp2_with fail
        go_quiet (fail)
        go_wp2_with fail
        go_quiet (fail)
        go_wp2_with fail
        go_quiet (fail)
        go_wp2
        go_ret
        exact ⟨rfl, (by repeat (first | exact HBR.out | refine below_drewN ?_ _))⟩
    all_goals
      go_wp2_with fail
      go_quiet (fail)
      go_wp2
      go_roundw
      case rel =>
        have hdd : wr.drewN nq = w6.drewN (n + nq) := by rw [HW.out, World.drewN_drewN]
        first
          | exact ⟨4, n + nq, by decide, by decide, rfl, hdd⟩
          | exact ⟨5, n + nq, by decide, by decide, rfl, hdd⟩
          | exact ⟨6, n + nq, by decide, by decide, rfl, hdd⟩
      case measure => simp [intOf]
end Go.Proofs.YtacmlpgakibdgaaDoor
