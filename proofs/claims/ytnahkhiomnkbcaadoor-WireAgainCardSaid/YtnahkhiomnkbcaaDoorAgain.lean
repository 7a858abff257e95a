/-
  WireAgain: what was read, written again, is read as the same, and is not longer; two lists of records are together one: the walk.
-/
import Derived.Test.YtnahkhiomnkbcaaDoorRead
namespace Go.Proofs.YtnahkhiomnkbcaaDoor
open Go.RowKit Go.Own Go.Own.Wire

set_option maxHeartbeats 1000000 in
set_option maxRecDepth 100000 in
/-- Where something is too long. -/
theorem wireAgain_long (A A2 : Option Addr) (na ca nb cb : Nat) (w : World) (ea : Nat → Addr) (he : Env w ea) (hl : 16384 < na ∨ 16384 < nb) :
    Calls Tryd.prog 6 #[.slice A na ca, .slice A2 nb cb] w fun e w' => e = .returned (.bool true) ∧ Below w.heap.size w w' := by
  have HE := Lib.hid he
  clear he
  go_enter Tryd.func6, Tryd.ntmps6
  go_wp2_with fail
  refine (first_any _ ea HE.out).mono ?_
  rintro e w1 ⟨rfl, hb1⟩
  have HB1 := Lib.hid hb1
  clear hb1
  by_cases ha : 16384 < na
  · go_wp2
    go_ret
    exact ⟨rfl, HB1.out⟩
  · have hb : 16384 < nb := by omega
    clear hl
    go_wp2
    go_ret
    exact ⟨rfl, HB1.out⟩

set_option maxHeartbeats 2000000 in
set_option maxRecDepth 100000 in
theorem wireAgain_any (A A2 : Option Addr) (na ca nb cb : Nat) (la lb : List UInt8) (w : World) (ea : Nat → Addr) (B : Nat) (he : Env w ea) (hra : Rd w B A na la) (hrb : Rd w B A2 nb lb) (hB : B ≤ w.heap.size)
    (hna : na ≤ 16384) (hnb : nb ≤ 16384) (hnca : na ≤ ca) (hncb : nb ≤ cb) :
    Calls Tryd.prog 6 #[.slice A na ca, .slice A2 nb cb] w fun e w' => e = .returned (.bool true) ∧ Below w.heap.size w w' := by
  have HE := Lib.hid he
  have h8 := he.room
  have HRa := Lib.hid (hra.more hB)
  have HRb := Lib.hid (hrb.more hB)
  have HLa := Lib.hid hra.len
  clear he hra hrb
  have ta : ¬ (16384 : Int) < (na : Int) := by omega
  have tb : ¬ (16384 : Int) < (nb : Int) := by omega
  go_enter Tryd.func6, Tryd.ntmps6
  go_wp2_with fail
  refine (first_any _ ea HE.out).mono ?_
  rintro e w1 ⟨rfl, hb1⟩
  have HB1 := Lib.hid hb1
  have hs1 := hb1.size
  clear hb1
  rcases hx : next la with er | ⟨r, n⟩
  · have HX := Lib.hid hx; clear hx
    go_wp2_with fail
    refine (next_any A na ca la _ ea w.heap.size (by exact HE.out.below HB1.out h8) (by exact HRa.out.below HB1.out) (by omega) hnca (by exact hs1)).mono ?_
    rw [HX.out]
    rintro e w2 ⟨rfl, hb2⟩
    have HB2 := Lib.hid (HB1.out.trans (hb2.mono hs1))
    have hs2 := HB2.out.size
    clear hb2
    simp only [recCells]
    have HBT := Lib.hid (HB2.out.alloc hs2 (.cells #[.int .i64 0, .int .i64 0, .int .u64 0, .slice none 0 0] 29))
    go_wp2_with fail
    generalize w2.alloc _ = WT at HBT ⊢
    have hsT := HBT.out.size
    go_wp2_with fail
    refine (bytes_any A na ca la _ w.heap.size (by exact HRa.out.below HBT.out) (by exact hsT) (by omega)).mono ?_
    rintro e w5 ⟨rfl, ho5, hb5⟩
    have HO5 := Lib.hid (ho5.base (base' := w.heap.size) hsT)
    have HB5 := Lib.hid (HBT.out.trans (hb5.mono hsT))
    have hs5 := HB5.out.size
    clear ho5 hb5
    go_wp2_with (first
      | (at_builtin
         refine wpList_app_any _ byteP rfl (.tmp 103) (.tmp 104) rfl w.heap.size (.slice (some ⟨WT.heap.size, 0, none⟩) na na) na la rfl HO5.out w.heap.size A2 nb cb lb rfl (HRb.out.below HB5.out) ?_ ?_ ?_
         · omega
         · omega
         intro A6 c6 w6 ho6 hg6 hat6 hc6 hm6
         have HB6 := Lib.hid (HB5.out.grown hg6 hs5 (fun g hg => by simp [Value.ownBlock] at hg; omega))
         have HO6 := Lib.hid ho6
         clear ho6 hg6 hat6 hm6))
    have hs6 := HB6.out.size
    rcases hca : check la with _ | ⟨pa, ka⟩
    · have HCA := Lib.hid hca; clear hca
      refine (check_any A na ca la _ ea w.heap.size (by exact HE.out.below HB6.out h8) (by exact HRa.out.below HB6.out) (by omega) hnca (by exact hs6)).mono ?_
      rw [HCA.out]
      rintro e w7 ⟨hb7, rfl⟩
      have HB7 := Lib.hid (HB6.out.trans (hb7.mono hs6))
      have HO7 := Lib.hid (HO6.out.below hb7 (fun g hg => (HO6.out.lt hg).1))
      have hs7 := HB7.out.size
      clear hb7
      rcases hcb : check lb with _ | ⟨pb, kb⟩
      · have HCB := Lib.hid hcb; clear hcb
        go_wp2_with fail
        refine (check_any A2 nb cb lb _ ea w.heap.size (by exact HE.out.below HB7.out h8) (by exact HRb.out.below HB7.out) (by omega) hncb (by exact hs7)).mono ?_
        rw [HCB.out]
        rintro e w8 ⟨hb8, rfl⟩
        have HB8 := Lib.hid (HB7.out.trans (hb8.mono hs7))
        have HO8 := Lib.hid (HO7.out.below hb8 (fun g hg => (HO7.out.lt hg).1))
        have hs8 := HB8.out.size
        clear hb8
        go_wp2_with fail
        refine (check_any A6 (na + nb) c6 (la ++ lb) _ ea w8.heap.size (by exact HE.out.below HB8.out h8) (by exact HO8.out.rd) (by omega) hc6 (by exact Nat.le_refl _)).mono ?_
        rw [check_append HCA.out HCB.out]
        rintro e w9 ⟨hb9, rfl⟩
        have HB9 := Lib.hid (HB8.out.trans (hb9.mono hs8))
        clear hb9
        go_wp2
        go_ret
        exact ⟨rfl, HB9.out⟩
      · have HCB := Lib.hid hcb; clear hcb
        go_wp2_with fail
        refine (check_any A2 nb cb lb _ ea w.heap.size (by exact HE.out.below HB7.out h8) (by exact HRb.out.below HB7.out) (by omega) hncb (by exact hs7)).mono ?_
        rw [HCB.out]
        rintro e w8 ⟨hb8, g8, rfl, _, _⟩
        have HB8 := Lib.hid (HB7.out.trans (hb8.mono hs7))
        clear hb8
        go_wp2
        go_ret
        exact ⟨rfl, HB8.out⟩
    · have HCA := Lib.hid hca; clear hca
      refine (check_any A na ca la _ ea w.heap.size (by exact HE.out.below HB6.out h8) (by exact HRa.out.below HB6.out) (by omega) hnca (by exact hs6)).mono ?_
      rw [HCA.out]
      rintro e w7 ⟨hb7, g7, rfl, _, _⟩
      have HB7 := Lib.hid (HB6.out.trans (hb7.mono hs6))
      clear hb7
      go_wp2
      go_ret
      exact ⟨rfl, HB7.out⟩
  · obtain ⟨p, hp, hnp, hpn, g1, g2, g3, g4, g5⟩ := next_put (by rw [HLa.out]; omega) hx
    have hnn := next_le hx
    rw [HLa.out] at hnn g5
    have HX := Lib.hid hx
    have HP := Lib.hid hp
    have HNP := Lib.hid hnp
    clear hx hp hnp
    go_wp2_with fail
    refine (next_any A na ca la _ ea w.heap.size (by exact HE.out.below HB1.out h8) (by exact HRa.out.below HB1.out) (by omega) hnca (by exact hs1)).mono ?_
    rw [HX.out]
    rintro e w2 ⟨v2, rfl, ho2, hb2⟩
    have HB2 := Lib.hid (HB1.out.trans (hb2.mono hs1))
    have hs2 := HB2.out.size
    obtain ⟨Av, cv, hv, hvc, _, _⟩ := ho2.form
    subst hv
    have HO2 := Lib.hid ho2.rd
    clear hb2 ho2
    simp only [recCells]
    have HBT := Lib.hid (HB2.out.alloc hs2 (.cells #[.int .i64 (r.field : Int), .int .i64 (r.kind : Int), .int .u64 (r.u : Int), .slice Av r.b.length cv] 29))
    have HBK := Lib.hid (Blk.new w2 29 #[.int .i64 (r.field : Int), .int .i64 (r.kind : Int), .int .u64 (r.u : Int), .slice Av r.b.length cv])
    have HRV := Lib.hid (HO2.out.alloc (Nat.le_refl _) (.cells #[.int .i64 (r.field : Int), .int .i64 (r.kind : Int), .int .u64 (r.u : Int), .slice Av r.b.length cv] 29))
    go_wp2_with fail
    generalize hWT : w2.alloc _ = WT at HBT HBK HRV ⊢
    have hsw : w2.heap.size < WT.heap.size := HBK.out.lt
    clear hWT
    have hsT := HBT.out.size
    refine (put_any none Av 0 0 r.b.length cv r.u r.field r.kind [] r.b _ ea w.heap.size w2.heap.size (by exact HE.out.below HBT.out h8) ⟨rfl, fun h => absurd h (by omega)⟩ (by exact hsT) (by omega) g4 (by exact HRV.out) (by exact Nat.le_of_lt hsw) (by omega)).mono ?_
    have hpr : putR r.field r.kind r.u r.b = .ok p := by
      unfold putR
      rw [if_pos (by omega)]
      simpa using HP.out
    rw [hpr]
    clear hpr
    rintro e w3 ⟨hb3, A3, c3, rfl, ho3⟩
    simp only [List.length_nil, Nat.zero_add, List.nil_append] at ho3 ⊢
    have HB3 := Lib.hid (HBT.out.trans (hb3.mono hsT))
    have HBK3 := Lib.hid (HBK.out.below hb3 hsw)
    have HRV3 := Lib.hid (HRV.out.below (hb3.mono (Nat.le_of_lt hsw)))
    obtain ⟨_, _, hv3, hvc3, _, _⟩ := ho3.form
    injection hv3 with q1 q2 q3
    subst q3
    have HO3 := Lib.hid ho3.rd
    have hs3 := HB3.out.size
    have hsw3 : WT.heap.size ≤ w3.heap.size := hb3.size
    clear hb3 ho3 q1 q2
    go_wp2_with fail
    refine (next_any A3 p.length c3 p _ ea w3.heap.size (by exact HE.out.below HB3.out h8) (by exact HO3.out) (by omega) hvc3 (by exact Nat.le_refl _)).mono ?_
    rw [HNP.out]
    rintro e w4 ⟨v4, rfl, ho4, hb4⟩
    have HB4 := Lib.hid (HB3.out.trans (hb4.mono hs3))
    have HBK4 := Lib.hid (HBK3.out.below hb4 HBK3.out.lt)
    have HRV4 := Lib.hid (HRV3.out.below (hb4.mono (by omega)))
    obtain ⟨A4, c4, hv4, _, _, _⟩ := ho4.form
    subst hv4
    have HO4 := Lib.hid ho4.rd
    have hs4 := HB4.out.size
    have hsw4 : w3.heap.size ≤ w4.heap.size := hb4.size
    clear hb4 ho4
    simp only [recCells]
    have HBX := Lib.hid (HB4.out.alloc hs4 (.cells #[.int .i64 (r.field : Int), .int .i64 (r.kind : Int), .int .u64 (r.u : Int), .slice A4 r.b.length c4] 29))
    have HBK5 := Lib.hid (HBK4.out.alloc (.cells #[.int .i64 (r.field : Int), .int .i64 (r.kind : Int), .int .u64 (r.u : Int), .slice A4 r.b.length c4] 29))
    have HBK6 := Lib.hid (Blk.new w4 29 #[.int .i64 (r.field : Int), .int .i64 (r.kind : Int), .int .u64 (r.u : Int), .slice A4 r.b.length c4])
    have x0 := HBK5.out.cell 0
    have x1 := HBK5.out.cell 1
    have x2 := HBK5.out.cell 2
    have x3 := HBK5.out.cell 3
    simp only [List.getElem?_toArray, List.getElem?_cons_zero, List.getElem?_cons_succ] at x0 x1 x2 x3
    have n1 : ¬ (n : Int) < (p.length : Int) := by omega
    have n2 : ¬ (na : Int) < (n : Int) := by omega
    go_wp2_with fail
    refine (sameBytes_any Av A4 _ _ cv c4 r.b r.b _ w2.heap.size w4.heap.size (by exact HRV4.out.alloc (by omega) _) (by exact HO4.out.alloc (Nat.le_refl _) _)).mono ?_
    rintro e w5 ⟨rfl, hw5⟩
    subst hw5
    simp only [decide_true]
    go_wp2_with fail
    clear HBT x0 x1 x2 x3 HBK5 HBK6 HBK4 HBK3 HBK HRV HRV3 HRV4 HO4 HO3 HO2 hsT
    have HBT := Lib.hid HBX.out
    clear HBX
    generalize w4.alloc _ = WX at HBT ⊢
    have hsT := HBT.out.size
    go_wp2_with fail
    refine (bytes_any A na ca la _ w.heap.size (by exact HRa.out.below HBT.out) (by exact hsT) (by omega)).mono ?_
    rintro e w5 ⟨rfl, ho5, hb5⟩
    have HO5 := Lib.hid (ho5.base (base' := w.heap.size) hsT)
    have HB5 := Lib.hid (HBT.out.trans (hb5.mono hsT))
    have hs5 := HB5.out.size
    clear ho5 hb5
    go_wp2_with (first
      | (at_builtin
         refine wpList_app_any _ byteP rfl (.tmp 103) (.tmp 104) rfl w.heap.size (.slice (some ⟨WX.heap.size, 0, none⟩) na na) na la rfl HO5.out w.heap.size A2 nb cb lb rfl (HRb.out.below HB5.out) ?_ ?_ ?_
         · omega
         · omega
         intro A6 c6 w6 ho6 hg6 hat6 hc6 hm6
         have HB6 := Lib.hid (HB5.out.grown hg6 hs5 (fun g hg => by simp [Value.ownBlock] at hg; omega))
         have HO6 := Lib.hid ho6
         clear ho6 hg6 hat6 hm6))
    have hs6 := HB6.out.size
    rcases hca : check la with _ | ⟨pa, ka⟩
    · have HCA := Lib.hid hca; clear hca
      refine (check_any A na ca la _ ea w.heap.size (by exact HE.out.below HB6.out h8) (by exact HRa.out.below HB6.out) (by omega) hnca (by exact hs6)).mono ?_
      rw [HCA.out]
      rintro e w7 ⟨hb7, rfl⟩
      have HB7 := Lib.hid (HB6.out.trans (hb7.mono hs6))
      have HO7 := Lib.hid (HO6.out.below hb7 (fun g hg => (HO6.out.lt hg).1))
      have hs7 := HB7.out.size
      clear hb7
      rcases hcb : check lb with _ | ⟨pb, kb⟩
      · have HCB := Lib.hid hcb; clear hcb
        go_wp2_with fail
        refine (check_any A2 nb cb lb _ ea w.heap.size (by exact HE.out.below HB7.out h8) (by exact HRb.out.below HB7.out) (by omega) hncb (by exact hs7)).mono ?_
        rw [HCB.out]
        rintro e w8 ⟨hb8, rfl⟩
        have HB8 := Lib.hid (HB7.out.trans (hb8.mono hs7))
        have HO8 := Lib.hid (HO7.out.below hb8 (fun g hg => (HO7.out.lt hg).1))
        have hs8 := HB8.out.size
        clear hb8
        go_wp2_with fail
        refine (check_any A6 (na + nb) c6 (la ++ lb) _ ea w8.heap.size (by exact HE.out.below HB8.out h8) (by exact HO8.out.rd) (by omega) hc6 (by exact Nat.le_refl _)).mono ?_
        rw [check_append HCA.out HCB.out]
        rintro e w9 ⟨hb9, rfl⟩
        have HB9 := Lib.hid (HB8.out.trans (hb9.mono hs8))
        clear hb9
        go_wp2
        go_ret
        exact ⟨rfl, HB9.out⟩
      · have HCB := Lib.hid hcb; clear hcb
        go_wp2_with fail
        refine (check_any A2 nb cb lb _ ea w.heap.size (by exact HE.out.below HB7.out h8) (by exact HRb.out.below HB7.out) (by omega) hncb (by exact hs7)).mono ?_
        rw [HCB.out]
        rintro e w8 ⟨hb8, g8, rfl, _, _⟩
        have HB8 := Lib.hid (HB7.out.trans (hb8.mono hs7))
        clear hb8
        go_wp2
        go_ret
        exact ⟨rfl, HB8.out⟩
    · have HCA := Lib.hid hca; clear hca
      refine (check_any A na ca la _ ea w.heap.size (by exact HE.out.below HB6.out h8) (by exact HRa.out.below HB6.out) (by omega) hnca (by exact hs6)).mono ?_
      rw [HCA.out]
      rintro e w7 ⟨hb7, g7, rfl, _, _⟩
      have HB7 := Lib.hid (HB6.out.trans (hb7.mono hs6))
      clear hb7
      go_wp2
      go_ret
      exact ⟨rfl, HB7.out⟩

theorem wireAgain_all (A A2 : Option Addr) (na ca nb cb : Nat) (la lb : List UInt8) (w : World) (ea : Nat → Addr) (he : Env w ea) (hra : Rd w w.heap.size A na la) (hrb : Rd w w.heap.size A2 nb lb) (hnca : na ≤ ca) (hncb : nb ≤ cb) :
    Calls Tryd.prog 6 #[.slice A na ca, .slice A2 nb cb] w fun e w' => e = .returned (.bool true) ∧ Below w.heap.size w w' := by
  by_cases h : 16384 < na ∨ 16384 < nb
  · exact wireAgain_long A A2 na ca nb cb w ea he h
  · exact wireAgain_any A A2 na ca nb cb la lb w ea w.heap.size he hra hrb (Nat.le_refl _) (by omega) (by omega) hnca hncb
end Go.Proofs.YtnahkhiomnkbcaaDoor
