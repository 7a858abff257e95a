/-
  Contracts: parleyref5.big.
  Contracts: parleyref5.Put, parleylaw8.frame: the document's frames.
  Contracts: parleylaw8.number, setting, ack.
  Contract: parleylaw8.hello of a server: what its other side sends first.
  Contracts: parleyref.SameBytes.
-/
import Derived.Test.YtkpppjhbmnfmkaaGreatDoorFb
import Derived.Test.YtkpppjhbmnfmkaaGreatDoorJa
import Derived.Test.YtkpppjhbmnfmkaaGreatDoorJg
set_option linter.unusedSimpArgs false
set_option linter.unusedVariables false
section
namespace Go.Proofs.YtkpppjhbmnfmkaaGreatDoor
open Go.RowKit Go.Own Go.Own.Fr
set_option maxHeartbeats 1000000 in
set_option maxRecDepth 100000 in
theorem big_any (n k : Nat) (w : World) (hk : k ≤ 8) (hn : n < 9223372036854775808) :
    Calls Tryz.prog 77 #[.int .i64 (n : Int), .int .i64 (k : Int)] w fun e w' => ∃ A c, e = .returned (.slice A k c) ∧ Ow w' w.heap.size 5 (.slice A k c) k (be n k) ∧ Below w.heap.size w w' := by
  have HO := Lib.hid (show Ow w w.heap.size 5 (.slice none 0 0) 0 [] from ⟨rfl, .inl ⟨rfl, rfl⟩⟩)
  go_enter Tryz.func77, Tryz.ntmps77
  go_wp2
  go_loopw [5, 6] (fun out iv wr => Hid (NumRel w w.heap.size 5 (.slice none 0 0) 0 [] n k out iv wr)) (fun _ iv _ => (intOf iv + 1).toNat)
  case atStart => exact Lib.hid ⟨k, [], Nat.le_refl _, by go_num, rfl, by simp, by simpa using HO.out, World.grownBy.refl w _, .inl rfl⟩
  case round =>
    obtain ⟨r, pre, hr, rfl, hbe, hpl, ho, hg, hob⟩ := hrel.out
    clear hrel
    have HB := Lib.hid hbe; clear hbe
    obtain ⟨A0, cap0, rfl, _, _, _⟩ := ho.form
    have HO1 := Lib.hid ho; clear ho HO
    have HG := Lib.hid hg; clear hg
    have HW := Lib.hid hob; clear hob
    rcases r with _ | q
    · go_wp2
      go_ret
      have e : be n k = pre := by rw [HB.out]; simp [be]
      have ho := HO1.out
      simp only [Nat.sub_zero, Nat.zero_add, List.nil_append] at ho ⊢
      rw [e]
      exact ⟨_, _, rfl, ho, (Below.refl _ _).grown HG.out (Nat.le_refl _) (fun g e => by cases e)⟩
    · have e1 : ((q + 1 : Nat) : Int) - 1 = (q : Int) := by omega
      rw [e1]
      have h8 : (0 : Int) ≤ 8 * (q : Int) := by omega
      have HY := Lib.hid (byte_of n q)
      have hsz : w.heap.size ≤ wr.heap.size := HG.out.size
      go_wp2_with (first
        | (at_builtin
           refine wpList_app_any _ byteP rfl (.tmp 13) (.tmp 20) rfl w.heap.size _ (0 + (k - (q + 1))) ([] ++ pre) rfl (HO1.out.alloc _) _ _ 1 1 _ rfl (Rd.one _ _ (UInt8.ofNat (n / 256 ^ q)) _ HY.out) ?_ ?_ ?_
           · omega
           · simp; omega
           intro A' cap' w2 ho2 hg2 hb2 hc2 hm2
           have HO2 := Lib.hid ho2; clear ho2
           have HG2 := Lib.hid hg2; clear hg2
           have HB2 := Lib.hid hb2; clear hb2))
      have e2 : k - (q + 1) + 1 = k - q := by omega
      have ho3 := HO2.out
      simp only [Nat.zero_add, List.nil_append] at ho3
      rw [e2] at ho3
      rw [e2]
      refine ⟨Lib.hid ⟨q, pre ++ [UInt8.ofNat (n / 256 ^ q)], by omega, rfl, ?_, by simp; omega, by simpa using ho3, ?_, ?_⟩, by simp [intOf]⟩
      · rw [HB.out]
        simp [be]
      · refine (grown_alloc HG.out _).andThen HG2.out fun j hj => ?_
        rcases HW.out with h | ⟨g, h, hg⟩
        · exact .inr (h.symm.trans hj)
        · exact .inl (by have h2 := h.symm.trans hj; injection h2 with h2; omega)
      · have hb3 := HB2.out
        simp only [Nat.zero_add] at hb3
        rw [e2] at hb3
        rcases hb3 with h | h
        · rw [h]
          have hw0 := HW.out
          simp only [Nat.zero_add] at hw0
          exact hw0
        · exact .inr ⟨_, h, by simp; have := HG.out.size; omega⟩
end Go.Proofs.YtkpppjhbmnfmkaaGreatDoor
end

section
namespace Go.Proofs.YtkpppjhbmnfmkaaGreatDoor
open Go.RowKit Go.Own Go.Own.Fr
set_option maxHeartbeats 4000000 in
set_option maxRecDepth 100000 in
theorem putR_any (A2 : Option Addr) (m c2 t f s B : Nat) (p : List UInt8) (w : World) (hr : Rd w B A2 m p) (hB : B ≤ w.heap.size) (hm : m < 16777216) (ht : t ≤ 255) (hf : f ≤ 255) (hs : s ≤ 2147483647) :
    Calls Tryz.prog 44 #[.agg #[.int .i64 (t : Nat), .int .i64 (f : Nat), .int .i64 (s : Nat), .slice A2 m c2]] w fun e w' => ∃ A' c', e = .returned (.tuple #[.slice A' (9 + m) c', .int .i64 0]) ∧
      Ow w' w.heap.size 5 (.slice A' (9 + m) c') (9 + m) (frameB t f s p) ∧ Below w.heap.size w w' := by
  have HR := Lib.hid hr
  have hpl := hr.1
  clear hr
  have a1 : ((t : Int) < 0) = False := by simp
  have a2 : ((255 : Int) < (t : Int)) = False := by simp; omega
  have a3 : ((f : Int) < 0) = False := by simp
  have a4 : ((255 : Int) < (f : Int)) = False := by simp; omega
  have a5 : ((s : Int) < 0) = False := by simp
  have a6 : ((2147483647 : Int) < (s : Int)) = False := by simp; omega
  have a7 : ((16777216 : Int) ≤ (m : Int)) = False := by simp; omega
  have HM := Lib.hid hm
  have HS := Lib.hid hs
  have HPL := Lib.hid hpl
  clear hm hs hpl
  go_enter Tryz.func44, Tryz.ntmps44
  go_upto_region 1 with fail
  have HX := Lib.hid (Blk.new w 24 #[.int .i64 (t : Nat), .int .i64 (f : Nat), .int .i64 (s : Nat), .slice A2 m c2])
  have HB0 := Lib.hid ((Below.refl w.heap.size w).alloc (Nat.le_refl _) (.cells #[.int .i64 (t : Nat), .int .i64 (f : Nat), .int .i64 (s : Nat), .slice A2 m c2] 24))
  have HZ := Lib.hid (show (w.alloc (.cells #[.int .i64 (t : Nat), .int .i64 (f : Nat), .int .i64 (s : Nat), .slice A2 m c2] 24)).heap.size = w.heap.size + 1 by simp)
  generalize w.alloc (.cells #[.int .i64 (t : Nat), .int .i64 (f : Nat), .int .i64 (s : Nat), .slice A2 m c2] 24) = w0 at HX HB0 HZ ⊢
  have HSf := Lib.hid (fun W (hW : Below w0.heap.size w0 W) => (show W.cell? ⟨w.heap.size, 0, none⟩ = some (.int .i64 (t : Nat)) ∧ W.cell? ⟨w.heap.size, 1, none⟩ = some (.int .i64 (f : Nat)) ∧ W.cell? ⟨w.heap.size, 2, none⟩ = some (.int .i64 (s : Nat)) ∧ W.cell? ⟨w.heap.size, 3, none⟩ = some (.slice A2 m c2) from
    have h := HX.out.below hW HX.out.lt
    ⟨h.cell 0, h.cell 1, h.cell 2, h.cell 3⟩))
  obtain ⟨c0, c1, c2', c3⟩ := HSf.out w0 (Below.refl _ _)
  go_wp2_with fail
  refine (big_any m 3 w0 (by omega) (by have := HM.out; omega)).mono ?_
  rintro e w1 ⟨A3, c3', rfl, ho3, hb3⟩
  have HO3 := Lib.hid ho3
  have HB3 := Lib.hid hb3
  clear c0 c1 c2' c3 ho3 hb3
  obtain ⟨c0, c1, c2', c3⟩ := HSf.out w1 HB3.out
  go_upto_region 5 with (first
    | (at_builtin
       refine wpList_app_any _ byteP rfl (.tmp 43) (.tmp 50) rfl w0.heap.size _ 3 (be m 3) rfl (HO3.out.alloc _) _ _ 2 2 [UInt8.ofNat t, UInt8.ofNat f] rfl (rd_two _ t f ht hf) ?_ ?_ ?_
       · omega
       · have := HB3.out.size; simp; omega
       intro A4 cap4 w4 ho4 hg4 _ _ _
       have hb4 := below_own (HB3.out.alloc (HB3.out.size) _) (Nat.le_refl _) (HO3.out.alloc _) hg4
       have HB4 := Lib.hid hb4
       have HO4 := Lib.hid ho4
       clear c0 c1 c2' c3
       obtain ⟨c0, c1, c2', c3⟩ := HSf.out w4 hb4
       clear ho4 hg4 hb4 HB3 HO3)
    | fail)
  go_wp2_with fail
  refine (big_any s 4 w4 (by omega) (by have := HS.out; omega)).mono ?_
  rintro e w5 ⟨A5, c5, rfl, ho5, hb5⟩
  have HO5 := Lib.hid ho5
  have HB5 := Lib.hid (HB4.out.trans (hb5.mono HB4.out.size))
  have HO4b := Lib.hid (HO4.out.below hb5 (fun g hg => (HO4.out.lt hg).1))
  clear c0 c1 c2' c3 ho5 hb5
  obtain ⟨c0, c1, c2', c3⟩ := HSf.out w5 HB5.out
  have HR5 := Lib.hid (((HR.out.more hB).below HB0.out).below (HB5.out.mono (by have := HZ.out; omega)))
  go_wp2_with (first
    | (at_builtin
       refine wpList_app_any _ byteP rfl (.tmp 52) (.tmp 55) rfl w0.heap.size _ (3 + 2) (be m 3 ++ [UInt8.ofNat t, UInt8.ofNat f]) rfl HO4b.out _ _ 4 c5 (be s 4) rfl HO5.out.rd ?_ ?_ ?_
       · omega
       · exact HB5.out.size
       intro A6 cap6 w6 ho6 hg6 _ _ _
       have hb6 := below_own HB5.out (Nat.le_refl _) HO4b.out hg6
       have HB6 := Lib.hid hb6
       have HO6 := Lib.hid ho6
       clear c0 c1 c2' c3
       obtain ⟨c0, c1, c2', c3⟩ := HSf.out w6 hb6
       have HR6 := Lib.hid (((HR.out.more hB).below HB0.out).below (hb6.mono (by have := HZ.out; omega)))
       clear ho6 hg6 hb6 HO4b)
    | (at_builtin
       refine wpList_app_any _ byteP rfl (.tmp 57) (.tmp 59) rfl w0.heap.size _ (3 + 2 + 4) ((be m 3 ++ [UInt8.ofNat t, UInt8.ofNat f]) ++ be s 4) rfl HO6.out _ A2 m c2 p rfl HR6.out ?_ ?_ ?_
       · have := HM.out; omega
       · exact HB6.out.size
       intro A7 cap7 w7 ho7 hg7 _ _ _
       have hb7 := below_own HB6.out (Nat.le_refl _) HO6.out hg7
       have HB7 := Lib.hid hb7
       have HO7 := Lib.hid ho7
       clear ho7 hg7 hb7)
    | fail)
  go_ret2
  have e2 : ((be m 3 ++ [UInt8.ofNat t, UInt8.ofNat f]) ++ be s 4) ++ p = frameB t f s p := by simp [frameB, HPL.out]
  have ho := HO7.out
  rw [e2] at ho
  exact ⟨_, _, rfl, ho.base (by have := HZ.out; omega), HB0.out.trans (HB7.out.mono (by have := HZ.out; omega))⟩
set_option maxHeartbeats 1000000 in
set_option maxRecDepth 100000 in
/-- A frame's bytes, as the statements lay them. -/
theorem lawFrame_any (A2 : Option Addr) (m c2 t f s B : Nat) (p : List UInt8) (w : World) (hr : Rd w B A2 m p) (hB : B ≤ w.heap.size) (hm : m < 16777216) (ht : t ≤ 255) (hf : f ≤ 255) (hs : s ≤ 2147483647) :
    Calls Tryz.prog 14 #[.int .i64 (t : Nat), .int .i64 (f : Nat), .int .i64 (s : Nat), .slice A2 m c2] w fun e w' => ∃ A' c', e = .returned (.slice A' (9 + m) c') ∧
      Ow w' w.heap.size 5 (.slice A' (9 + m) c') (9 + m) (frameB t f s p) ∧ Below w.heap.size w w' := by
  have HP := Lib.hid (putR_any A2 m c2 t f s B p w hr hB hm ht hf hs)
  clear hr hm ht hf hs
  go_enter Tryz.func14, Tryz.ntmps14
  go_wp2_with fail
  refine HP.out.mono ?_
  rintro e w1 ⟨A', c', rfl, ho, hb⟩
  have HO := Lib.hid ho
  have HB := Lib.hid hb
  clear ho hb
  go_wp2
  go_ret
  exact ⟨_, _, rfl, HO.out, HB.out⟩
end Go.Proofs.YtkpppjhbmnfmkaaGreatDoor
end

section
namespace Go.Own
open Go.RowKit
/-- Bytes in a new block are one's own. -/
theorem Ow.lit (w : World) (e : TypeId) (l : List UInt8) (hl : l.length ≤ 1000) : Ow (w.alloc (.cells (l.map bv).toArray e)) w.heap.size e (.slice (some ⟨w.heap.size, 0, none⟩) l.length l.length) l.length l := by
  have h := Cm.Ew.lit (fun b : UInt8 => #[bv b]) e (k := 1) (fun _ => rfl) w l hl
  have e2 : ∀ l : List UInt8, Cm.flat (fun b : UInt8 => #[bv b]) l = l.map bv := by
    intro l
    induction l with
    | nil => rfl
    | cons x l ih => rw [show Cm.flat (fun b : UInt8 => #[bv b]) (x :: l) = bv x :: Cm.flat (fun b : UInt8 => #[bv b]) l from rfl, ih]; rfl
  unfold Cm.Ew at h
  rw [e2] at h
  exact h
end Go.Own
namespace Go.Proofs.YtkpppjhbmnfmkaaGreatDoor
open Go.RowKit Go.Own Go.Own.Fr
set_option maxHeartbeats 1000000 in
set_option maxRecDepth 100000 in
theorem lawNumber_any (n : Nat) (w : World) (hn : n < 4294967296) :
    Calls Tryz.prog 17 #[.int .i64 (n : Nat)] w fun e w' => e = .returned (.slice (some ⟨w.heap.size, 0, none⟩) 4 4) ∧ Rd w' (w.heap.size + 1) (some ⟨w.heap.size, 0, none⟩) 4 (be n 4) ∧ Below w.heap.size w w' := by
  go_enter Tryz.func17, Tryz.ntmps17
  go_wp2
  go_ret
  refine ⟨rfl, ?_, (Below.refl _ _).alloc (Nat.le_refl _) _⟩
  refine Rd.lits w _ (be n 4) 5 ?_
  simp [be, bv]
  omega
set_option maxHeartbeats 1000000 in
set_option maxRecDepth 100000 in
/-- Settings that are acknowledged. -/
theorem lawAck_any (w : World) : Calls Tryz.prog 12 #[] w fun e w' => ∃ A c, e = .returned (.slice A 9 c) ∧ Ow w' w.heap.size 5 (.slice A 9 c) 9 (frameB 4 1 0 []) ∧ Below w.heap.size w w' := by
  have HF := Lib.hid (lawFrame_any none 0 0 4 1 0 w.heap.size [] w ⟨rfl, fun h => absurd h (by omega)⟩ (Nat.le_refl _) (by omega) (by omega) (by omega) (by omega))
  go_enter Tryz.func12, Tryz.ntmps12
  go_wp2_with fail
  refine HF.out.mono ?_
  rintro e w1 ⟨A', c', rfl, ho, hb⟩
  have HO := Lib.hid ho
  have HB := Lib.hid hb
  clear ho hb
  go_wp2
  go_ret
  exact ⟨_, _, rfl, HO.out, HB.out⟩
set_option maxHeartbeats 2000000 in
set_option maxRecDepth 100000 in
/-- A setting's bytes. -/
theorem lawSetting_any (k v : Nat) (w : World) (hk : k ≤ 255) (hv : v < 4294967296) : Calls Tryz.prog 31 #[.int .i64 (k : Nat), .int .i64 (v : Nat)] w fun e w' => ∃ A c, e = .returned (.slice A 6 c) ∧ Ow w' w.heap.size 5 (.slice A 6 c) 6 (be k 2 ++ be v 4) ∧ Below w.heap.size w w' := by
  have HN := Lib.hid (fun W => lawNumber_any v W hv)
  have HO := Lib.hid (show Ow (w.alloc (.cells #[.int .u8 0, .int .u8 (k : Nat)] 5)) w.heap.size 5 (.slice (some ⟨w.heap.size, 0, none⟩) 2 2) 2 (be k 2) from by
    have h := Ow.lit w 5 (be k 2) (by rw [be_len]; omega)
    have e : ((be k 2).map bv).toArray = #[.int .u8 0, .int .u8 (k : Nat)] := by
      simp [be, bv]
      omega
    rw [e, be_len] at h
    exact h)
  clear hv
  go_enter Tryz.func31, Tryz.ntmps31
  go_wp2_with fail
  refine (HN.out _).mono ?_
  rintro e w1 ⟨rfl, hr, hb⟩
  have HR := Lib.hid hr
  have HB := Lib.hid hb
  have HO1 := Lib.hid (HO.out.below hb (fun g hg => (HO.out.lt hg).1))
  clear hr hb
  go_wp2_with (first
    | (at_builtin
       refine wpList_app_any _ byteP rfl (.tmp 7) (.tmp 9) rfl w.heap.size _ 2 (be k 2) rfl HO1.out _ _ 4 4 (be v 4) rfl (by first | exact HR.out | simpa using HR.out) ?_ ?_ ?_
       · omega
       · have := HB.out.size; simp at this; omega
       intro A2 cap2 w2 ho2 hg2 _ _ _
       have HO2 := Lib.hid ho2
       have HB2 := Lib.hid (below_own (((Below.refl w.heap.size w).alloc (Nat.le_refl _) (.cells #[.int .u8 0, .int .u8 (k : Nat)] 5)).trans (HB.out.mono (by simp))) (Nat.le_refl _) HO1.out hg2)
       clear ho2 hg2)
    | fail)
  go_ret
  exact ⟨_, _, rfl, HO2.out, HB2.out⟩
end Go.Proofs.YtkpppjhbmnfmkaaGreatDoor
end

section
namespace Go.Proofs.YtkpppjhbmnfmkaaGreatDoor
open Go.RowKit Go.Own Go.Own.Fr
set_option maxHeartbeats 4000000 in
set_option maxRecDepth 100000 in
theorem hello2_any (w : World) : Calls Tryz.prog 11 #[.int .i64 2] w fun e w' => ∃ A c, e = .returned (.slice A 33 c) ∧ Oz w' (fun g => w.heap.size ≤ g) (.slice A 33 c) (prefB ++ frameB 4 0 0 []) ∧ Below w.heap.size w w' := by
  have HF := Lib.hid (lawFrame_any none 0 0 4 0 0 w.heap.size [] w ⟨rfl, fun h => absurd h (by omega)⟩ (Nat.le_refl _) (by omega) (by omega) (by omega) (by omega))
  go_enter Tryz.func11, Tryz.ntmps11
  go_wp2_with fail
  refine HF.out.mono ?_
  rintro e w1 ⟨A1, c1, rfl, ho1, hb1⟩
  have HO1 := Lib.hid ho1
  have HB1 := Lib.hid hb1
  clear ho1 hb1
  go_wp2_with fail
  refine (prefaceR_any w1).mono ?_
  rintro e w2 ⟨rfl, hr2, hb2⟩
  have hlt2 : w1.heap.size < w2.heap.size := by
    obtain ⟨ad, e, hlt, hc⟩ := hr2.2 (by decide)
    injection e with e
    subst e
    exact (World.block_lt_of_cell? w2 _ (hc 0 (by decide)))
  have HZ2 := Lib.hid (Oz.full (own := fun g => w.heap.size ≤ g) hr2 hlt2 (by decide) HB1.out.size (by decide))
  have HR2 := Lib.hid ((HO1.out.below hb2 (fun g hg => (HO1.out.lt hg).1)).rd)
  have HB2 := Lib.hid (HB1.out.trans (hb2.mono HB1.out.size))
  clear hr2 hb2 hlt2
  have hbnd : prefB.length + (9 + 0) ≤ 140737488355328 := by decide
  go_wp2_with (first
    | (refine wpList_app_z byteP _ rfl (.tmp 7) (.tmp 8) rfl (fun g => w.heap.size ≤ g) (.slice (some ⟨w1.heap.size, 0, none⟩) 24 24) prefB rfl HZ2.out w2.heap.size A1 (9 + 0) c1 (frameB 4 0 0 []) rfl HR2.out hbnd ?_
       intro A3 c3 w3 row3 hO3 hg3 hr3
       have HO3 := Lib.hid (hO3.owned (own' := fun g => w.heap.size ≤ g) (fun g _ h => by rcases h with h | ⟨_, h⟩; exact h; rw [h]; exact HB2.out.size))
       have HB3 := Lib.hid (HB2.out.grown hg3 HB2.out.size (fun g e => (hr3 g e).1))
       clear hO3 hg3 hr3)
    | fail)
  go_ret
  exact ⟨A3, c3, rfl, HO3.out, HB3.out⟩
end Go.Proofs.YtkpppjhbmnfmkaaGreatDoor
end

section
namespace Go.Proofs.YtkpppjhbmnfmkaaGreatDoor
open Go.RowKit Go.Own
set_option maxHeartbeats 400000 in
set_option maxRecDepth 100000 in
theorem sameBytes_any (A A2 : Option Addr) (n n2 c c2 : Nat) (l l2 : List UInt8) (w : World) (B B2 : Nat) (hr : Rd w B A n l) (hr2 : Rd w B2 A2 n2 l2) :
    Calls Tryz.prog 18 #[.slice A n c, .slice A2 n2 c2] w fun e w' => e = .returned (.bool (decide (l = l2))) ∧ w = w' := by
  have h1 := run_str (P := Tryz.prog) (c := c) 22 9 5 Tryz.underlying22 Tryz.underlying5 Tryz.underlying9 hr
  have h2 := run_str (P := Tryz.prog) (c := c2) 22 9 5 Tryz.underlying22 Tryz.underlying5 Tryz.underlying9 hr2
  clear hr hr2
  go_enter Tryz.func18, Tryz.ntmps18
  go_wp2
  go_ret
  refine ⟨?_, rfl⟩
  simp
  rw [Bool.eq_iff_iff]
  simp
end Go.Proofs.YtkpppjhbmnfmkaaGreatDoor
end
