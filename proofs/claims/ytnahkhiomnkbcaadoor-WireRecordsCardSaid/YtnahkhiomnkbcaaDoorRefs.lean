/-
  Contracts: parleyref.Bytes, SameBytes; wire.Tag, Zig.
-/
import Derived.Test.YtnahkhiomnkbcaaDoorChk
namespace Go.Proofs.YtnahkhiomnkbcaaDoor
open Go.RowKit Go.Own Go.Own.Wire

set_option maxHeartbeats 400000 in
set_option maxRecDepth 100000 in
theorem bytes_any (A : Option Addr) (n c : Nat) (l : List UInt8) (w : World) (B : Nat) (hr : Rd w B A n l) (hB : B ≤ w.heap.size) (hn : n ≤ 1000000000000) :
    Calls Tryd.prog 15 #[.slice A n c] w fun e w' => e = .returned (.slice (some ⟨w.heap.size, 0, none⟩) n n) ∧
      Ow w' w.heap.size 5 (.slice (some ⟨w.heap.size, 0, none⟩) n n) n l ∧ Below w.heap.size w w' := by
  have HR := Lib.hid hr; clear hr
  go_enter Tryd.func15, Tryd.ntmps15
  go_wp2_with (first
    | (at_make
       refine wpList_mk _ byteP rfl _ _ rfl w.heap.size .i64 .i64 _ n rfl rfl ?_ ?_ (Nat.le_refl _) ?_
       · rfl
       · omega
       intro w1 ho1 hg1
       have hb1 : Below w.heap.size w w1 := (Below.refl _ _).grown hg1 (Nat.le_refl _) (by simp)
       have HR1 := Lib.hid ((HR.out.more hB).below hb1))
    | (at_builtin
       refine wpList_app_fits _ byteP rfl (.tmp 5) (.tmp 6) rfl w.heap.size w.heap.size 0 n [] rfl ho1 w.heap.size A n c l rfl HR1.out ?_ ?_
       · omega
       intro w2 ho2 hg2
       have hb2 : Below w.heap.size w w2 := hb1.grown hg2 hb1.size (by simp)))
  go_ret
  simp only [Nat.zero_add, List.nil_append] at ho2 ⊢
  exact ⟨rfl, ho2, hb2⟩

set_option maxHeartbeats 400000 in
set_option maxRecDepth 100000 in
theorem sameBytes_any (A A2 : Option Addr) (n n2 c c2 : Nat) (l l2 : List UInt8) (w : World) (B B2 : Nat) (hr : Rd w B A n l) (hr2 : Rd w B2 A2 n2 l2) :
    Calls Tryd.prog 17 #[.slice A n c, .slice A2 n2 c2] w fun e w' => e = .returned (.bool (decide (l = l2))) ∧ w = w' := by
  have h1 := run_str (P := Tryd.prog) (c := c) 23 9 5 Tryd.underlying23 Tryd.underlying5 Tryd.underlying9 hr
  have h2 := run_str (P := Tryd.prog) (c := c2) 23 9 5 Tryd.underlying23 Tryd.underlying5 Tryd.underlying9 hr2
  clear hr hr2
  go_enter Tryd.func17, Tryd.ntmps17
  go_wp2
  go_ret
  refine ⟨?_, rfl⟩
  simp
  rw [Bool.eq_iff_iff]
  simp

/-- What Tag answers. -/
def tagNum (f k : Int) : Option Nat := if 1 ≤ f ∧ f ≤ 536870911 ∧ 0 ≤ k ∧ k ≤ 5 then some (f.toNat * 8 + k.toNat) else none

theorem tag_bits (f k : Nat) (h1 : f ≤ 536870911) (h2 : k ≤ 5) : bits .or .u64 ((f : Int) * 8) (k : Int) = (f : Int) * 8 + (k : Int) := by
  have h := u64_or_nat (f * 8) k (by omega) (by omega)
  have e : ((f * 8 : Nat) : Int) = (f : Int) * 8 := by omega
  rw [e] at h
  rw [h]
  have := Nat.two_pow_add_eq_or_of_lt (i := 3) (b := k) (by omega) f
  rw [Nat.mul_comm f, show (8 : Nat) = 2 ^ 3 from rfl, ← this]
  omega

set_option maxHeartbeats 400000 in
set_option maxRecDepth 100000 in
theorem tag_yes (f k : Nat) (w : World) (h1 : 1 ≤ f) (h2 : f ≤ 536870911) (h3 : k ≤ 5) :
    Calls Tryd.prog 25 #[.int .i64 (f : Int), .int .i64 (k : Int)] w fun e w' => e = .returned (.tuple #[.int .u64 ((f * 8 + k : Nat) : Int), .nilIface]) ∧ w = w' := by
  go_enter Tryd.func25, Tryd.ntmps25
  go_wp2
  go_ret2
  refine ⟨?_, rfl⟩
  simp
  exact tag_bits f k h2 h3

set_option maxHeartbeats 400000 in
set_option maxRecDepth 100000 in
theorem zig_minus (w : World) : Calls Tryd.prog 24 #[.int .i64 (-1)] w fun e w' => e = .returned (.int .u64 1) ∧ w = w' := by
  go_enter Tryd.func24, Tryd.ntmps24
  go_wp2
  go_ret
  refine ⟨?_, rfl⟩
  simp
  decide +kernel

theorem Rd.lit {w : World} (g : Nat) (vs : Array Value) (e : TypeId) (l : List UInt8) (hb : Blk w g e vs) (hv : ∀ j, j < l.length → vs[j]? = some (.int .u8 ((l.getD j 0).toNat : Int))) : Rd w w.heap.size (some ⟨g, 0, none⟩) l.length l :=
  ⟨rfl, fun _ => ⟨_, rfl, hb.lt, fun j hj => by rw [Addr.add_lit, Nat.zero_add, hb.cell j]; exact hv j hj⟩⟩

theorem venc300 : venc 300 = [172, 2] := by decide
theorem uvar300 : uvar [172, 2] = .ok (300, 2) := by rfl
theorem next4 : next [11, 8, 1, 12] = .ok (⟨1, 3, 0, [8, 1]⟩, 4) := by rfl
theorem next12 : next [12] = .error 104 := by rfl

theorem rd_new2 (w : World) (a b : UInt8) (x y : Int) (hx : x = (a.toNat : Int)) (hy : y = (b.toNat : Int)) : Rd (w.alloc (.cells #[.int .u8 x, .int .u8 y] 5)) (w.alloc (.cells #[.int .u8 x, .int .u8 y] 5)).heap.size (some ⟨w.heap.size, 0, none⟩) 2 [a, b] := by
  refine Rd.lit w.heap.size _ _ [a, b] (Blk.new w _ _) fun j hj => ?_
  subst hx hy
  match j, hj with
  | 0, _ => rfl
  | 1, _ => rfl
theorem rd_new4 (w : World) (a b c d : UInt8) (x y z u : Int) (hx : x = (a.toNat : Int)) (hy : y = (b.toNat : Int)) (hz : z = (c.toNat : Int)) (hu : u = (d.toNat : Int)) : Rd (w.alloc (.cells #[.int .u8 x, .int .u8 y, .int .u8 z, .int .u8 u] 5)) (w.alloc (.cells #[.int .u8 x, .int .u8 y, .int .u8 z, .int .u8 u] 5)).heap.size (some ⟨w.heap.size, 0, none⟩) 4 [a, b, c, d] := by
  refine Rd.lit w.heap.size _ _ [a, b, c, d] (Blk.new w _ _) fun j hj => ?_
  subst hx hy hz hu
  match j, hj with
  | 0, _ => rfl
  | 1, _ => rfl
  | 2, _ => rfl
  | 3, _ => rfl
theorem rd_new1 (w : World) (a : UInt8) (x : Int) (hx : x = (a.toNat : Int)) : Rd (w.alloc (.cells #[.int .u8 x] 5)) (w.alloc (.cells #[.int .u8 x] 5)).heap.size (some ⟨w.heap.size, 0, none⟩) 1 [a] := by
  refine Rd.lit w.heap.size _ _ [a] (Blk.new w _ _) fun j hj => ?_
  subst hx
  match j, hj with
  | 0, _ => rfl

set_option maxHeartbeats 1000000 in
set_option maxRecDepth 100000 in
theorem first_any (w : World) (ea : Nat → Addr) (he : Env w ea) :
    Calls Tryd.prog 9 #[] w fun e w' => e = .returned (.bool true) ∧ Below w.heap.size w w' := by
  have HE := Lib.hid he
  have h8 := he.room
  clear he
  go_enter Tryd.func9, Tryd.ntmps9
  go_wp2_with fail
  refine (varint_any none 0 0 300 [] _ w.heap.size ⟨rfl, fun h => absurd h (by omega)⟩ (Nat.le_refl _) (by omega) (by omega)).mono ?_
  rw [venc300]
  rintro e w1 ⟨rfl, ho1, hb1⟩
  have HB1 := Lib.hid hb1
  have hs1 := hb1.size
  have HO1 := Lib.hid ho1
  clear ho1 hb1
  go_wp2_with fail
  refine (sameBytes_any _ _ _ _ _ _ [172, 2] [172, 2] _ w1.heap.size _ (by exact HO1.out.rd.alloc (Nat.le_refl _) _) (by exact rd_new2 w1 172 2 172 2 rfl rfl)).mono ?_
  rintro e w2 ⟨rfl, hw2⟩
  have HB2 : Hid (Below w.heap.size w w2) := Lib.hid (hw2 ▸ HB1.out.alloc hs1 _)
  clear HB1 HO1 hs1 hw2
  have hs2 := HB2.out.size
  go_wp2_with fail
  refine (uvarint_any _ _ _ [172, 2] _ ea _ (by exact HE.out.below (HB2.out.alloc hs2 _) h8) (by exact rd_new2 w2 172 2 172 2 rfl rfl) (by omega)).mono ?_
  rw [uvar300]
  rintro e w3 ⟨rfl, m3, hw3⟩
  have HB3 : Hid (Below w.heap.size w w3) := Lib.hid (hw3 ▸ below_drewN (HB2.out.alloc hs2 _) m3)
  clear HB2 hs2 hw3
  have hs3 := HB3.out.size
  simp only [uvRes]
  go_wp2_with fail
  refine (next_any _ _ _ [11, 8, 1, 12] _ ea _ (by exact HE.out.below (HB3.out.alloc hs3 _) h8) (by exact rd_new4 w3 11 8 1 12 11 8 1 12 rfl rfl rfl rfl) (by omega) (by omega) (Nat.le_refl _)).mono ?_
  rw [next4]
  rintro e w4 ⟨v4, rfl, ho4, hb4⟩
  have HB4 : Hid (Below w.heap.size w w4) := Lib.hid ((HB3.out.alloc hs3 _).trans (hb4.mono (by simp; omega)))
  obtain ⟨A4, c4, hv4, _, _, _⟩ := ho4.form
  subst hv4
  clear HB3 ho4 hb4
  have hs4 := HB4.out.size
  simp only [recCells]
  go_wp2_with fail
  have HBL := Lib.hid (((Blk.new w4 29 #[.int .i64 1, .int .i64 3, .int .u64 0, .slice A4 2 c4]).alloc (.cells #[.int .u8 12] 5)))
  have HB5 := Lib.hid ((HB4.out.alloc hs4 (.cells #[.int .i64 1, .int .i64 3, .int .u64 0, .slice A4 2 c4] 29)).alloc (by simp; omega) (.cells #[.int .u8 12] 5))
  refine (next_any _ _ _ [12] _ ea _ (by exact HE.out.below HB5.out h8) (by have h := rd_new1 (w4.alloc (.cells #[.int .i64 1, .int .i64 3, .int .u64 0, .slice A4 2 c4] 29)) 12 12 rfl; rw [show (w4.alloc (.cells #[.int .i64 1, .int .i64 3, .int .u64 0, .slice A4 2 c4] 29)).heap.size = w4.heap.size + 1 by simp] at h; exact h) (by omega) (by omega) (Nat.le_refl _)).mono ?_
  rw [next12]
  rintro e w6 ⟨rfl, hb6⟩
  have hbl := HBL.out.below hb6 HBL.out.lt
  have HB6 : Hid (Below w.heap.size w w6) := Lib.hid (HB5.out.trans (hb6.mono HB5.out.size))
  clear HB4 HB5 HBL hb6 hs4
  have hs6 := HB6.out.size
  have hlt6 := hbl.lt
  have f1 : w6.cell? ⟨w4.heap.size, 1, none⟩ = some (.int .i64 3) := hbl.cell 1
  clear hbl
  simp only [recCells]
  go_wp2_with fail
  refine (tag_yes 1 2 _ (by omega) (by omega) (by omega)).mono ?_
  rintro e w7 ⟨rfl, rfl⟩
  go_wp2_with fail
  refine (zig_minus _).mono ?_
  rintro e w8 ⟨rfl, rfl⟩
  go_wp2
  go_ret
  exact ⟨rfl, HB6.out.alloc hs6 _⟩
end Go.Proofs.YtnahkhiomnkbcaaDoor
