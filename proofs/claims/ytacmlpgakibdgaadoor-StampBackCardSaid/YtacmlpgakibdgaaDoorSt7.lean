/-
  Contracts: stamp.Print, PrintSpan.
-/
import Derived.Test.YtacmlpgakibdgaaDoorSt6
namespace Go.Proofs.YtacmlpgakibdgaaDoor
open Go.RowKit Go.Own Go.Own.Dig Go.Own.Alg

/-- A time's text as far as it is laid. -/
def tt (y m d h i e : Nat) : Nat → List UInt8
  | 0 => dg 4 y
  | 1 => dg 4 y ++ ([45] ++ dg 2 m)
  | 2 => dg 4 y ++ ([45] ++ dg 2 m) ++ ([45] ++ dg 2 d)
  | 3 => dg 4 y ++ ([45] ++ dg 2 m) ++ ([45] ++ dg 2 d) ++ ([84] ++ dg 2 h)
  | 4 => dg 4 y ++ ([45] ++ dg 2 m) ++ ([45] ++ dg 2 d) ++ ([84] ++ dg 2 h) ++ ([58] ++ dg 2 i)
  | _ => dg 4 y ++ ([45] ++ dg 2 m) ++ ([45] ++ dg 2 d) ++ ([84] ++ dg 2 h) ++ ([58] ++ dg 2 i) ++ ([58] ++ dg 2 e)
theorem tt_len (y m d h i e k : Nat) : (tt y m d h i e k).length ≤ 30 := by
  unfold tt
  split <;> simp [dg_len]

def PrintPost (s : Int) (n : Nat) (w : World) (x : Ending) (w' : World) : Prop :=
  ∃ y m d h i e : Nat, x = .returned (.tuple #[.string ⟨(timeB y m d h i e n ++ [90]).toArray⟩, .nilIface]) ∧ Cal.DateOf s y m d h i e ∧ Below w.heap.size w w'

def signs : Array Value := #[.string ⟨#[45]⟩, .string ⟨#[45]⟩, .string ⟨#[84]⟩, .string ⟨#[58]⟩, .string ⟨#[58]⟩]

set_option maxHeartbeats 2000000 in
set_option maxRecDepth 100000 in
theorem print_yes (s : Int) (n : Nat) (w : World) (ev : Addr) (he : EnvS w ev) (hv : okT s n = true) :
    Calls Tryd.prog 10 #[.agg #[.int .i64 s, .int .i64 (n : Int)]] w (PrintPost s n w) := by
  have HE := Lib.hid he
  have h8 := he.room
  obtain ⟨_, _, _, hn⟩ := of_decide_eq_true hv
  have HV := Lib.hid hv
  clear he hv
  go_enter Tryd.func10, Tryd.ntmps10
  go_wp2_with fail
  refine (date_yes s n _ HV.out).mono ?_
  rintro x w1 ⟨g, y, m, d, h, i, e, rfl, hd, hbk, hg, hb⟩
  obtain ⟨y, rfl⟩ := Int.eq_ofNat_of_zero_le (show 0 ≤ y by have := hd.date.y1; omega)
  obtain ⟨m, rfl⟩ := Int.eq_ofNat_of_zero_le (show 0 ≤ m by have := hd.date.m1; omega)
  obtain ⟨d, rfl⟩ := Int.eq_ofNat_of_zero_le (show 0 ≤ d by have := hd.date.d1; omega)
  obtain ⟨h, rfl⟩ := Int.eq_ofNat_of_zero_le hd.h1
  obtain ⟨i, rfl⟩ := Int.eq_ofNat_of_zero_le hd.i1
  obtain ⟨e, rfl⟩ := Int.eq_ofNat_of_zero_le hd.e1
  have by1 : y < 10000 := by have := hd.date.y2; omega
  have bm : m < 100 := by have := hd.date.m2; omega
  have bd : d < 100 := by have := hd.date.d2; have := Cal.mlen_bd (y : Int) (m : Int); omega
  have bh : h < 100 := by have := hd.h2; omega
  have bi : i < 100 := by have := hd.i2; omega
  have be : e < 100 := by have := hd.e2; omega
  have HD := Lib.hid hd
  have HBK := Lib.hid hbk
  have hbt : Blk w1 w.heap.size 24 #[.int .i64 s, .int .i64 (n : Int)] := (Blk.new w _ _).below hb (by simp)
  have HBT := Lib.hid hbt
  have HB1 : Hid (Below w.heap.size w w1) := Lib.hid (((Below.refl _ _).alloc (Nat.le_refl _) _).trans (hb.mono (by simp)))
  have hgl := hbk.lt
  have hs1 := HB1.out.size
  obtain ⟨c0, _, _, _, _, _⟩ := six_of hbk
  clear hd hbk hbt hb
  go_wp2_with fail
  refine (padded_any y 3 _ ev (by exact HE.out.below HB1.out h8) (by omega) by1).mono ?_
  rintro x w2 ⟨rfl, hb2⟩
  have HB2 := Lib.hid (HB1.out.trans (hb2.mono hs1))
  have HBK2 := Lib.hid (HBK.out.below hb2 hgl)
  have HBT2 := Lib.hid (HBT.out.below hb2 HBT.out.lt)
  clear hb2 c0
  go_wp2_with fail
  have hWB : Below w.heap.size w (w2.alloc (.cells signs 9)) := HB2.out.alloc HB2.out.size _
  have hWK : Blk (w2.alloc (.cells signs 9)) g 3 (sixOf y m d h i e) := HBK2.out.alloc _
  have hWT : Blk (w2.alloc (.cells signs 9)) w.heap.size 24 #[.int .i64 s, .int .i64 (n : Int)] := HBT2.out.alloc _
  have hWS : Blk (w2.alloc (.cells signs 9)) w2.heap.size 9 signs := Blk.new w2 _ _
  unfold signs at hWB hWK hWT hWS
  generalize hgs : w2.heap.size = gs at *
  clear hgs
  generalize w2.alloc _ = W0 at hWB hWK hWT hWS ⊢
  have HWB := Lib.hid hWB
  have HWK := Lib.hid hWK
  have HWT := Lib.hid hWT
  have HWS := Lib.hid hWS
  have sW := hWB.size
  have sg := hWK.lt
  have st := hWT.lt
  have ss := hWS.lt
  clear hWB hWK hWT hWS HB1 HBK HBT HB2 HBK2 HBT2 hs1 hgl
  go_loopw [23, 6, 7, 8] (fun ix sv _ _ wr => ∃ k : Nat, k ≤ 5 ∧ ix = .int .i64 k ∧ sv = .string ⟨(tt y m d h i e k).toArray⟩ ∧ Below W0.heap.size W0 wr) (fun ix _ _ _ _ => 5 - (intOf ix).toNat)
  case atStart => exact ⟨0, by omega, rfl, rfl, Below.refl _ _⟩
  case round =>
    obtain ⟨k, hk, rfl, rfl, hbw⟩ := hrel
    have HBW := Lib.hid hbw
    have HBR : Hid (Below w.heap.size w wr) := Lib.hid (HWB.out.trans (hbw.mono sW))
    have hk' : k = 0 ∨ k = 1 ∨ k = 2 ∨ k = 3 ∨ k = 4 ∨ k = 5 := by omega
    have bk := HWK.out.below hbw sg
    have bs := HWS.out.below hbw ss
    have bt := HWT.out.below hbw st
    obtain ⟨_, c1, c2, c3, c4, c5⟩ := six_of bk
    have s0 : wr.cell? ⟨gs, 0, none⟩ = some (.string ⟨#[45]⟩) := bs.cell 0
    have s1 : wr.cell? ⟨gs, 1, none⟩ = some (.string ⟨#[45]⟩) := bs.cell 1
    have s2 : wr.cell? ⟨gs, 2, none⟩ = some (.string ⟨#[84]⟩) := bs.cell 2
    have s3 : wr.cell? ⟨gs, 3, none⟩ = some (.string ⟨#[58]⟩) := bs.cell 3
    have s4 : wr.cell? ⟨gs, 4, none⟩ = some (.string ⟨#[58]⟩) := bs.cell 4
    have t1 : wr.cell? ⟨w.heap.size, 1, none⟩ = some (.int .i64 (n : Int)) := bt.cell 1
    clear hk hbw bk bs bt
    have hSl := tt_len y m d h i e k
    obtain ⟨S, hS⟩ : ∃ S, tt y m d h i e k = S := ⟨_, rfl⟩
    rw [hS] at hSl ⊢
    have HS := Lib.hid hS.symm
    clear hS
    rcases hk' with rfl | rfl | rfl | rfl | rfl | rfl
    · go_wp2_with fail
      refine (padded_any m 1 _ ev (by exact HE.out.below HBR.out h8) (by omega) bm).mono ?_
      rintro x w3 ⟨rfl, hb3⟩
      have HB3 := Lib.hid (HBW.out.trans (hb3.mono HBW.out.size))
      clear hb3
      have hRl := dg_len 2 m
      have hRl' : (dg (1 + 1) m).length ≤ 9 := by rw [dg_len]; omega
      clear hRl
      have HT : Hid (tt y m d h i e 1 = S ++ ([45] ++ dg (1 + 1) m)) := Lib.hid (by rw [HS.out]; rfl)
      generalize dg (1 + 1) m = R at *
      go_wp2
      go_roundw
      case rel => exact ⟨1, by omega, rfl, by rw [HT.out, ← bytes_app, ← bytes_app], HB3.out⟩
      case measure => simp [intOf]
    · go_wp2_with fail
      refine (padded_any d 1 _ ev (by exact HE.out.below HBR.out h8) (by omega) bd).mono ?_
      rintro x w3 ⟨rfl, hb3⟩
      have HB3 := Lib.hid (HBW.out.trans (hb3.mono HBW.out.size))
      clear hb3
      have hRl := dg_len 2 d
      have hRl' : (dg (1 + 1) d).length ≤ 9 := by rw [dg_len]; omega
      clear hRl
      have HT : Hid (tt y m d h i e 2 = S ++ ([45] ++ dg (1 + 1) d)) := Lib.hid (by rw [HS.out]; rfl)
      generalize dg (1 + 1) d = R at *
      go_wp2
      go_roundw
      case rel => exact ⟨2, by omega, rfl, by rw [HT.out, ← bytes_app, ← bytes_app], HB3.out⟩
      case measure => simp [intOf]
    · go_wp2_with fail
      refine (padded_any h 1 _ ev (by exact HE.out.below HBR.out h8) (by omega) bh).mono ?_
      rintro x w3 ⟨rfl, hb3⟩
      have HB3 := Lib.hid (HBW.out.trans (hb3.mono HBW.out.size))
      clear hb3
      have hRl := dg_len 2 h
      have hRl' : (dg (1 + 1) h).length ≤ 9 := by rw [dg_len]; omega
      clear hRl
      have HT : Hid (tt y m d h i e 3 = S ++ ([84] ++ dg (1 + 1) h)) := Lib.hid (by rw [HS.out]; rfl)
      generalize dg (1 + 1) h = R at *
      go_wp2
      go_roundw
      case rel => exact ⟨3, by omega, rfl, by rw [HT.out, ← bytes_app, ← bytes_app], HB3.out⟩
      case measure => simp [intOf]
    · go_wp2_with fail
      refine (padded_any i 1 _ ev (by exact HE.out.below HBR.out h8) (by omega) bi).mono ?_
      rintro x w3 ⟨rfl, hb3⟩
      have HB3 := Lib.hid (HBW.out.trans (hb3.mono HBW.out.size))
      clear hb3
      have hRl := dg_len 2 i
      have hRl' : (dg (1 + 1) i).length ≤ 9 := by rw [dg_len]; omega
      clear hRl
      have HT : Hid (tt y m d h i e 4 = S ++ ([58] ++ dg (1 + 1) i)) := Lib.hid (by rw [HS.out]; rfl)
      generalize dg (1 + 1) i = R at *
      go_wp2
      go_roundw
      case rel => exact ⟨4, by omega, rfl, by rw [HT.out, ← bytes_app, ← bytes_app], HB3.out⟩
      case measure => simp [intOf]
    · go_wp2_with fail
      refine (padded_any e 1 _ ev (by exact HE.out.below HBR.out h8) (by omega) be).mono ?_
      rintro x w3 ⟨rfl, hb3⟩
      have HB3 := Lib.hid (HBW.out.trans (hb3.mono HBW.out.size))
      clear hb3
      have hRl := dg_len 2 e
      have hRl' : (dg (1 + 1) e).length ≤ 9 := by rw [dg_len]; omega
      clear hRl
      have HT : Hid (tt y m d h i e 5 = S ++ ([58] ++ dg (1 + 1) e)) := Lib.hid (by rw [HS.out]; rfl)
      generalize dg (1 + 1) e = R at *
      go_wp2
      go_roundw
      case rel => exact ⟨5, by omega, rfl, by rw [HT.out, ← bytes_app, ← bytes_app], HB3.out⟩
      case measure => simp [intOf]
    · go_wp2_with fail
      refine (fraction_any n _ ev (by exact HE.out.below HBR.out h8) (by omega)).mono ?_
      rintro x w3 ⟨rfl, hb3⟩
      have HB3 := Lib.hid (HBR.out.trans (hb3.mono HBR.out.size))
      clear hb3
      have hRl := fracT_len_le n
      have HT : Hid (timeB y m d h i e n ++ [90] = S ++ fracT n ++ [90]) := Lib.hid (by rw [HS.out]; rfl)
      generalize fracT n = R at *
      go_wp2
      go_ret2
      exact ⟨y, m, d, h, i, e, by rw [HT.out, ← bytes_app, ← bytes_app]; rfl, HD.out, HB3.out⟩

/-- A text, or the error. -/
def resP (ev : Addr) : Value := .tuple #[.string ⟨#[]⟩, .iface 105 (.pointer (some ev))]

set_option maxHeartbeats 400000 in
theorem print_no (s n : Int) (w : World) (ev : Addr) (he : EnvS w ev) (hv : okT s n = false) :
    Calls Tryd.prog 10 #[.agg #[.int .i64 s, .int .i64 n]] w fun e w' => e = .returned (resP ev) ∧ Below w.heap.size w w' := by
  have HE := Lib.hid he
  have h8 := he.room
  have HV := Lib.hid hv
  clear he hv
  go_enter Tryd.func10, Tryd.ntmps10
  go_wp2_with fail
  refine (date_no s n _ ev (by exact HE.out.below ((Below.refl _ _).alloc (Nat.le_refl _) _) h8) HV.out).mono ?_
  unfold resD
  rintro x w1 ⟨rfl, hb⟩
  have HB1 : Hid (Below w.heap.size w w1) := Lib.hid (((Below.refl _ _).alloc (Nat.le_refl _) _).trans (hb.mono (by simp)))
  clear hb
  go_wp2
  go_ret2
  exact ⟨rfl, HB1.out⟩
end Go.Proofs.YtacmlpgakibdgaaDoor
