/-
  Contracts: parleyref.SameInts at equal parts, parleylaw24.first.
-/
import Derived.Test.YtacmlpgakibdgaaDoorRd6
import Derived.Test.YtacmlpgakibdgaaDoorSt8
namespace Go.Proofs.YtacmlpgakibdgaaDoor
open Go.RowKit Go.Own Go.Own.Dig Go.Own.Alg

set_option maxHeartbeats 1000000 in
theorem same6_any (g g' : Nat) (y m d h i e : Int) (w : World) (hb : Blk w g 3 (sixOf y m d h i e)) (hb' : Blk w g' 3 (sixOf y m d h i e)) :
    Calls Tryd.prog 21 #[.slice (some ⟨g, 0, none⟩) 6 6, .slice (some ⟨g', 0, none⟩) 6 6] w fun x w' => x = .returned (.bool true) ∧ ∃ n, w' = w.drewN n := by
  obtain ⟨c0, c1, c2, c3, c4, c5⟩ := six_of hb
  obtain ⟨k0, k1, k2, k3, k4, k5⟩ := six_of hb'
  clear hb hb'
  go_enter Tryd.func21, Tryd.ntmps21
  go_wp2
  go_loopw [5, 6] (fun ix _ wr => ∃ k n : Nat, k ≤ 6 ∧ ix = .int .i64 k ∧ wr = w.drewN n) (fun ix _ _ => 6 - (intOf ix).toNat)
  case atStart => exact ⟨0, 0, by omega, rfl, rfl⟩
  case round =>
    obtain ⟨k, n, hk, rfl, hw⟩ := hrel
    have hk' : k = 0 ∨ k = 1 ∨ k = 2 ∨ k = 3 ∨ k = 4 ∨ k = 5 ∨ k = 6 := by omega
    have d0 : wr.cell? ⟨g, 0, none⟩ = some (.int .i64 y) := by rw [hw]; exact c0
    have d1 : wr.cell? ⟨g, 1, none⟩ = some (.int .i64 m) := by rw [hw]; exact c1
    have d2 : wr.cell? ⟨g, 2, none⟩ = some (.int .i64 d) := by rw [hw]; exact c2
    have d3 : wr.cell? ⟨g, 3, none⟩ = some (.int .i64 h) := by rw [hw]; exact c3
    have d4 : wr.cell? ⟨g, 4, none⟩ = some (.int .i64 i) := by rw [hw]; exact c4
    have d5 : wr.cell? ⟨g, 5, none⟩ = some (.int .i64 e) := by rw [hw]; exact c5
    have f0 : wr.cell? ⟨g', 0, none⟩ = some (.int .i64 y) := by rw [hw]; exact k0
    have f1 : wr.cell? ⟨g', 1, none⟩ = some (.int .i64 m) := by rw [hw]; exact k1
    have f2 : wr.cell? ⟨g', 2, none⟩ = some (.int .i64 d) := by rw [hw]; exact k2
    have f3 : wr.cell? ⟨g', 3, none⟩ = some (.int .i64 h) := by rw [hw]; exact k3
    have f4 : wr.cell? ⟨g', 4, none⟩ = some (.int .i64 i) := by rw [hw]; exact k4
    have f5 : wr.cell? ⟨g', 5, none⟩ = some (.int .i64 e) := by rw [hw]; exact k5
    have HW := Lib.hid hw
    clear hk hw c0 c1 c2 c3 c4 c5 k0 k1 k2 k3 k4 k5
    rcases hk' with rfl | rfl | rfl | rfl | rfl | rfl | rfl
    case inr.inr.inr.inr.inr.inr =>
      go_wp2
      go_ret
      exact ⟨rfl, n, HW.out⟩
    all_goals
      go_wp2_with fail
      go_quiet (fail)
      go_wp2
      go_roundw
      case rel =>
        have hdd : wr.drewN nq = w.drewN (n + nq) := by rw [HW.out, World.drewN_drewN]
        first
          | exact ⟨1, n + nq, by decide, rfl, hdd⟩
          | exact ⟨2, n + nq, by decide, rfl, hdd⟩
          | exact ⟨3, n + nq, by decide, rfl, hdd⟩
          | exact ⟨4, n + nq, by decide, rfl, hdd⟩
          | exact ⟨5, n + nq, by decide, rfl, hdd⟩
          | exact ⟨6, n + nq, by decide, rfl, hdd⟩
      case measure => simp [intOf]

def text1 : List UInt8 := [49, 57, 54, 57, 45, 49, 50, 45, 51, 49, 84, 50, 51, 58, 53, 57, 58, 53, 57, 46, 53, 48, 48, 90]
def text2 : List UInt8 := [50, 48, 48, 48, 45, 48, 50, 45, 50, 57, 84, 48, 49, 58, 48, 48, 58, 48, 48, 46, 53, 43, 48, 49, 58, 48, 48]
def text3 : List UInt8 := [45, 48, 46, 48, 48, 48, 48, 48, 48, 48, 48, 49, 115]
theorem t1_eq : timeB 1969 12 31 23 59 59 500000000 ++ [90] = text1 := by decide +kernel
theorem t2_eq : parseT text2 = some (951782400, 500000000) := by decide +kernel
theorem t3_eq : spanT 0 (-1) = text3 := by decide +kernel
theorem date1 : Cal.DateOf (-1) 1969 12 31 23 59 59 := ⟨⟨by decide, by decide, by decide, by decide, by decide, by decide⟩, by decide, by decide, by decide, by decide, by decide, by decide, by decide⟩
theorem date2 : Cal.DateOf 951782400 2000 2 29 0 0 0 := ⟨⟨by decide, by decide, by decide, by decide, by decide, by decide⟩, by decide, by decide, by decide, by decide, by decide, by decide, by decide⟩

set_option maxHeartbeats 1000000 in
set_option maxRecDepth 100000 in
theorem first_any (w : World) (ev : Addr) (he : EnvS w ev) :
    Calls Tryd.prog 7 #[] w fun e w' => e = .returned (.bool true) ∧ Below w.heap.size w w' := by
  have HE := Lib.hid he
  have h8 := he.room
  clear he
  go_enter Tryd.func7, Tryd.ntmps7
  go_wp2_with fail
  refine (print_yes (-1) 500000000 _ ev HE.out (by decide)).mono ?_
  rintro x w1 ⟨y, m, d, h, i, e, rfl, hd, hb⟩
  obtain ⟨e1, e2, e3, e4, e5, e6⟩ := hd.unique date1
  obtain rfl : y = 1969 := by omega
  obtain rfl : m = 12 := by omega
  obtain rfl : d = 31 := by omega
  obtain rfl : h = 23 := by omega
  obtain rfl : i = 59 := by omega
  obtain rfl : e = 59 := by omega
  rw [t1_eq]
  unfold text1
  have HB1 := Lib.hid hb
  have hs1 := hb.size
  clear hb hd e1 e2 e3 e4 e5 e6
  go_wp2_with fail
  refine (parse_any text2 _ ev (by exact HE.out.below HB1.out h8) (by decide)).mono ?_
  rw [t2_eq]
  rintro x w2 ⟨rfl, hb⟩
  simp only [resT]
  have HB2 := Lib.hid (HB1.out.trans (hb.mono hs1))
  have hs2 := HB2.out.size
  clear hb
  go_wp2_with fail
  have hbt := Blk.new w2 24 #[.int .i64 951782400, .int .i64 500000000]
  have HB3 := Lib.hid (HB2.out.alloc hs2 (.cells #[.int .i64 951782400, .int .i64 500000000] 24))
  generalize w2.alloc _ = w3 at hbt HB3 ⊢
  have HBT := Lib.hid hbt
  clear hbt
  have hs3 := HB3.out.size
  refine (printSpan_yes 0 (-1) _ ev (by exact HE.out.below HB3.out h8) (by decide)).mono ?_
  rw [t3_eq]
  unfold text3
  rintro x w4 ⟨rfl, hb⟩
  have HB4 := Lib.hid (HB3.out.trans (hb.mono hs3))
  have hs4 := HB4.out.size
  have HBT4 := Lib.hid (HBT.out.below hb HBT.out.lt)
  clear hb HBT
  go_wp2_with fail
  refine (date_yes 951782400 0 _ (by decide)).mono ?_
  rintro x w5 ⟨g, y, m, d, h, i, e, rfl, hd, hbk, hg, hb⟩
  obtain ⟨rfl, rfl, rfl, rfl, rfl, rfl⟩ := hd.unique date2
  have HB5 := Lib.hid (HB4.out.trans (hb.mono hs4))
  have hs5 := HB5.out.size
  have HBT5 := Lib.hid (HBT4.out.below hb HBT4.out.lt)
  have HBK := Lib.hid hbk
  clear hb hd HBT4 hbk
  go_wp2_with fail
  have hb2 := Blk.new w5 3 (sixOf 2000 2 29 0 0 0)
  unfold sixOf at hb2
  refine (same6_any g w5.heap.size 2000 2 29 0 0 0 _ (by exact HBK.out.alloc _) (by exact hb2)).mono ?_
  rintro x w6 ⟨rfl, n6, hw6⟩
  have HB6 : Hid (Below w.heap.size w w6) := Lib.hid (by rw [hw6]; exact below_drewN (HB5.out.alloc hs5 _) n6)
  have hbt6 : Blk w6 w2.heap.size 24 #[.int .i64 951782400, .int .i64 500000000] := by rw [hw6]; exact (HBT5.out.alloc _).drewN n6
  have c0 : w6.cell? ⟨w2.heap.size, 0, none⟩ = some (.int .i64 951782400) := hbt6.cell 0
  have c1 : w6.cell? ⟨w2.heap.size, 1, none⟩ = some (.int .i64 500000000) := hbt6.cell 1
  clear hw6 hbt6 hb2
  go_wp2
  go_ret
  exact ⟨rfl, HB6.out⟩
end Go.Proofs.YtacmlpgakibdgaaDoor
