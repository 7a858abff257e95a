/-
  Contracts: grpc.Reader.Feed, Left.
-/
import Derived.Test.YtoafmhbgbofgoaaGreatDoorG1
import Derived.Test.YtoafmhbgbofgoaaGreatDoorRow
import Derived.Test.YtoafmhbgbofgoaaGreatDoorScp
import Derived.Test.YtoafmhbgbofgoaaGreatDoorEnv
import Derived.WalkMore
import Derived.ScopeJumps
import Derived.Deep.RegionHeld3
import Derived.IntWalk
namespace Go.Own
open Go.RowKit
theorem arr_gen (t : Array Value) (n : Nat) (h : t.size = n) : t = ((List.range n).map (fun k => t.getD k undef)).toArray := by
  apply Array.ext
  · simp [h]
  · intro i h1 h2
    simp [Array.getD, h1]
theorem Om.lit {w : World} {base n c : Nat} {A : Option Addr} {l : List UInt8} (h : Om w base (.slice A n c) n l) (h0 : 0 < n) : ∃ gf off, A = some ⟨gf, off, none⟩ ∧ n ≤ c ∧ base ≤ gf ∧ gf < w.heap.size ∧ ∀ j, j < n → w.cell? ⟨gf, off + j, none⟩ = some (.int .u8 ((l.getD j 0).toNat : Int)) := by
  obtain ⟨_, h⟩ := h
  rcases h with ⟨hv, rfl⟩ | ⟨g, off, cap, hv, hb, hg, h1, h2, h3, h4⟩
  · omega
  · injection hv with hA _ hc
    subst hA hc
    exact ⟨g, off, rfl, h1, hb, hg, h4⟩
set_option maxRecDepth 100000 in
theorem fdFrame_arr (t : Array Value) (h : t.size = 125) : t = (t.getD 0 undef :: t.getD 1 undef :: t.getD 2 undef :: t.getD 3 undef :: t.getD 4 undef :: t.getD 5 undef :: t.getD 6 undef :: t.getD 7 undef :: t.getD 8 undef :: t.getD 9 undef :: t.getD 10 undef :: t.getD 11 undef :: t.getD 12 undef :: t.getD 13 undef :: t.getD 14 undef :: t.getD 15 undef :: t.getD 16 undef :: t.getD 17 undef :: t.getD 18 undef :: t.getD 19 undef :: t.getD 20 undef :: t.getD 21 undef :: t.getD 22 undef :: t.getD 23 undef :: t.getD 24 undef :: t.getD 25 undef :: t.getD 26 undef :: t.getD 27 undef :: t.getD 28 undef :: t.getD 29 undef :: t.getD 30 undef :: t.getD 31 undef :: t.getD 32 undef :: t.getD 33 undef :: t.getD 34 undef :: t.getD 35 undef :: t.getD 36 undef :: t.getD 37 undef :: t.getD 38 undef :: t.getD 39 undef :: t.getD 40 undef :: t.getD 41 undef :: t.getD 42 undef :: t.getD 43 undef :: t.getD 44 undef :: t.getD 45 undef :: t.getD 46 undef :: t.getD 47 undef :: t.getD 48 undef :: t.getD 49 undef :: t.getD 50 undef :: t.getD 51 undef :: t.getD 52 undef :: t.getD 53 undef :: t.getD 54 undef :: t.getD 55 undef :: t.getD 56 undef :: t.getD 57 undef :: t.getD 58 undef :: t.getD 59 undef :: t.getD 60 undef :: t.getD 61 undef :: t.getD 62 undef :: t.getD 63 undef :: t.getD 64 undef :: t.getD 65 undef :: t.getD 66 undef :: t.getD 67 undef :: t.getD 68 undef :: t.getD 69 undef :: t.getD 70 undef :: t.getD 71 undef :: t.getD 72 undef :: t.getD 73 undef :: t.getD 74 undef :: t.getD 75 undef :: t.getD 76 undef :: t.getD 77 undef :: t.getD 78 undef :: t.getD 79 undef :: t.getD 80 undef :: t.getD 81 undef :: t.getD 82 undef :: t.getD 83 undef :: t.getD 84 undef :: t.getD 85 undef :: t.getD 86 undef :: t.getD 87 undef :: t.getD 88 undef :: t.getD 89 undef :: t.getD 90 undef :: t.getD 91 undef :: t.getD 92 undef :: t.getD 93 undef :: t.getD 94 undef :: t.getD 95 undef :: t.getD 96 undef :: t.getD 97 undef :: t.getD 98 undef :: t.getD 99 undef :: t.getD 100 undef :: t.getD 101 undef :: t.getD 102 undef :: t.getD 103 undef :: t.getD 104 undef :: t.getD 105 undef :: t.getD 106 undef :: t.getD 107 undef :: t.getD 108 undef :: t.getD 109 undef :: t.getD 110 undef :: t.getD 111 undef :: t.getD 112 undef :: t.getD 113 undef :: t.getD 114 undef :: t.getD 115 undef :: t.getD 116 undef :: t.getD 117 undef :: t.getD 118 undef :: t.getD 119 undef :: t.getD 120 undef :: t.getD 121 undef :: t.getD 122 undef :: t.getD 123 undef :: t.getD 124 undef :: []).toArray := arr_gen t 125 h
theorem fdFrame_lit (a : Act) (v0 v6 : Value) (hd : a.defers = []) (hz : a.tmps.size = 125) (e0 : a.tmps.getD 0 undef = v0) (e6 : a.tmps.getD 6 undef = v6) : ∃ u : Nat → Value,
    a = { tmps := (v0 :: u 1 :: u 2 :: u 3 :: u 4 :: u 5 :: v6 :: u 7 :: u 8 :: u 9 :: u 10 :: u 11 :: u 12 :: u 13 :: u 14 :: u 15 :: u 16 :: u 17 :: u 18 :: u 19 :: u 20 :: u 21 :: u 22 :: u 23 :: u 24 :: u 25 :: u 26 :: u 27 :: u 28 :: u 29 :: u 30 :: u 31 :: u 32 :: u 33 :: u 34 :: u 35 :: u 36 :: u 37 :: u 38 :: u 39 :: u 40 :: u 41 :: u 42 :: u 43 :: u 44 :: u 45 :: u 46 :: u 47 :: u 48 :: u 49 :: u 50 :: u 51 :: u 52 :: u 53 :: u 54 :: u 55 :: u 56 :: u 57 :: u 58 :: u 59 :: u 60 :: u 61 :: u 62 :: u 63 :: u 64 :: u 65 :: u 66 :: u 67 :: u 68 :: u 69 :: u 70 :: u 71 :: u 72 :: u 73 :: u 74 :: u 75 :: u 76 :: u 77 :: u 78 :: u 79 :: u 80 :: u 81 :: u 82 :: u 83 :: u 84 :: u 85 :: u 86 :: u 87 :: u 88 :: u 89 :: u 90 :: u 91 :: u 92 :: u 93 :: u 94 :: u 95 :: u 96 :: u 97 :: u 98 :: u 99 :: u 100 :: u 101 :: u 102 :: u 103 :: u 104 :: u 105 :: u 106 :: u 107 :: u 108 :: u 109 :: u 110 :: u 111 :: u 112 :: u 113 :: u 114 :: u 115 :: u 116 :: u 117 :: u 118 :: u 119 :: u 120 :: u 121 :: u 122 :: u 123 :: u 124 :: []).toArray, defers := [] } := by
  refine ⟨fun k => a.tmps.getD k undef, ?_⟩
  obtain ⟨t, df⟩ := a
  have h2 := fdFrame_arr t hz
  simp only at hd e0 e6
  rw [hd]
  congr 1
  rw [e0, e6] at h2
  exact h2
end Go.Own
namespace Go.Proofs.YtoafmhbgbofgoaaGreatDoor.Gp
open Go.RowKit Go.Own Go.Own.Grpc

/-- The reader's block. -/
def RdB (w : World) (g : Nat) (most : Int) (v : Value) (gone : Bool) : Prop := Blk w g 87 #[.int .i64 most, v, .bool gone]

theorem rowP : RowP Tryz.prog 57 53 := ⟨Tryz.underlying57, info_parts (by kernel_rfl)⟩

/-- What Feed leaves. -/
def FdPost (g base : Nat) (most : Int) (fb : Option Nat) (e2 e3 : Addr) (R : Nat × List (List UInt8) × List UInt8) (w : World) (e : Ending) (w' : World) : Prop :=
  Kept2 w w' g fb ∧
  ((R.1 = 0 ∧ ∃ A n c gs outv, e = .returned (.tuple #[outv, .nilIface]) ∧ RdB w' g most (.slice A n c) false ∧ Om w' base (.slice A n c) n R.2.2 ∧
      ((Value.slice A n c).ownBlock = fb ∨ (Value.slice A n c).ownBlock = none ∨ ∃ b, (Value.slice A n c).ownBlock = some b ∧ w.heap.size ≤ b) ∧
      Bks w' w.heap.size 5 gs R.2.1 ∧ (∀ k ∈ gs, (Value.slice A n c).ownBlock ≠ some k) ∧ w'.ownsRow w.heap.size 53 1 outv gs.length (rows gs R.2.1)) ∨
   (R.1 = 1 ∧ e = .returned (.tuple #[.slice none 0 0, .iface 164 (.pointer (some e2))]) ∧ RdB w' g most (.slice none 0 0) true) ∨
   (R.1 = 2 ∧ e = .returned (.tuple #[.slice none 0 0, .iface 164 (.pointer (some e3))]) ∧ RdB w' g most (.slice none 0 0) true))

/-- What stands in memory wherever the reading is gone on with. w: ahead of the call; w1: behind the first append. -/
structure FW (g base : Nat) (most : Int) (fb : Option Nat) (w w1 : World) (W : World) (A : Option Addr) (n c : Nat) (l : List UInt8) (t : List (List UInt8)) (gs : List Nat) (outv : Value) : Prop where
  first : w.grownBy w1 fb
  far : (Value.slice A n c).ownBlock ≠ some g
  own : (Value.slice A n c).ownBlock = fb ∨ (Value.slice A n c).ownBlock = none ∨ ∃ b, (Value.slice A n c).ownBlock = some b ∧ w.heap.size ≤ b
  old : ∀ b, (Value.slice A n c).ownBlock = some b → b < w1.heap.size
  new : g < w.heap.size
  blk : RdB W g most (.slice A n c) false
  om : Om W base (.slice A n c) n l
  told : Bks W w1.heap.size 5 gs t
  out : W.ownsRow w1.heap.size 53 1 outv gs.length (rows gs t)
  grown : w1.grownBy W (some g)
  few : gs.length + n ≤ 1000000000
theorem FW.drewN {g base : Nat} {most : Int} {fb : Option Nat} {w w1 W : World} {A : Option Addr} {n c : Nat} {l : List UInt8} {t : List (List UInt8)} {gs : List Nat} {outv : Value} (h : FW g base most fb w w1 W A n c l t gs outv) (k : Nat) : FW g base most fb w w1 (W.drewN k) A n c l t gs outv :=
  ⟨h.first, h.far, h.own, h.old, h.new, h.blk, h.om, h.told.keep fun _ _ => rfl, h.out, grown_drewN h.grown k, h.few⟩

theorem FW.errs {g base : Nat} {most : Int} {fb : Option Nat} {w w1 W : World} {A : Option Addr} {n c : Nat} {l : List UInt8} {t : List (List UInt8)} {gs : List Nat} {outv : Value} {e1 e2 e3 e4 : Addr}
    (h : FW g base most fb w w1 W A n c l t gs outv) (he : EnvG w e1 e2 e3 e4) (hg : 12 ≤ g) (hf : ∀ b, fb = some b → 12 ≤ b) : EnvG W e1 e2 e3 e4 := by
  have hz := h.first.size
  have hz2 := h.grown.size
  have hr := he.room
  refine he.kept (fun i hi => ?_) (by omega)
  have h1 := h.first.block i (by omega) (fun e => by have := hf _ e.symm; omega)
  have h2 := h.grown.block i (by omega) (fun e => by injection e with e; omega)
  exact h2.trans h1

structure FJ (g : Nat) (most : Int) (R : Nat × List (List UInt8) × List UInt8) (a : Act) (l : List UInt8) (t : List (List UInt8)) (outv : Value) : Prop where
  dfr : a.defers = []
  size : a.tmps.size = 125
  s0 : a.tmps.getD 0 undef = .pointer (some ⟨g, 0, none⟩)
  s6 : a.tmps.getD 6 undef = outv
  goes : chw most l t = R

def muF (W : World) (g : Nat) : Nat := match W.cell? ⟨g, 1, none⟩ with
  | some (.slice _ n _) => n
  | _ => 0

theorem run_sub {P : Program} {t e : TypeId} (hP : ByteP P t e) (A : Option Addr) (n c k u : Nat) (hk : k + u ≤ n) (hc : n ≤ c) (W : World) :
    (Instr.slice t (.slice A n c) (some (.int .i64 (k : Int))) (some (.int .i64 ((k : Int) + (u : Int)))) none).run P W = .ok (.slice (if c = k then A else A.map fun x => x.add k) u (c - k)) W := by
  obtain ⟨i, hi, hz, h1, h2⟩ := hP.info
  have e : ((k : Int) + (u : Int)).toNat = k + u := by omega
  have hk2 := run_sliceBound (P := P) (w := W) .i64 (k : Int) (k + u) .sliceB (by omega) (by omega)
  simp only [Int.toNat_natCast] at hk2
  simp [Instr.slice, hk2, run_underlying hP.slice, Instr.sliceBounds, run_sliceBound, sizeOf, typeInfo, hi, h1, Result.andThen, e, show (k : Int) + u ≤ c by omega, show (0 : Int) ≤ (k : Int) + u by omega]
theorem sub_from {P : Program} {t e : TypeId} (hP : ByteP P t e) {w : World} {B n c k u : Nat} {A : Option Addr} {l : List UInt8} (h : Rd w B A n l) (x y : Int) (hx : x = (k : Int)) (hy : y = (k : Int) + (u : Int)) (hk : k + u ≤ n) (hc : n ≤ c) :
    ∃ A', Rd w B A' u ((l.drop k).take u) ∧ ∀ W : World, (Instr.slice t (.slice A n c) (some (.int .i64 x)) (some (.int .i64 y)) none).run P W = .ok (.slice A' u (c - k)) W :=
  ⟨_, h.sub hk hc, fun W => by rw [hx, hy]; exact run_sub hP A n c k u hk hc W⟩
theorem Om.from_ {P : Program} {t e : TypeId} (hP : ByteP P t e) {w : World} {base n c k : Nat} {A : Option Addr} {l : List UInt8} (h : Om w base (.slice A n c) n l) (x : Int) (hx : x = (k : Int)) (hk : k ≤ n) :
    ∃ A', Om w base (.slice A' (n - k) (c - k)) (n - k) (l.drop k) ∧ ((Value.slice A' (n - k) (c - k)).ownBlock = (Value.slice A n c).ownBlock) ∧ ∀ W : World, (Instr.slice t (.slice A n c) (some (.int .i64 x)) none none).run P W = .ok (.slice A' (n - k) (c - k)) W := by
  refine ⟨_, h.cut hk, ?_, fun W => by rw [hx]; exact run_from hP A n c k hk h.cap W⟩
  rcases A with _ | ad
  · by_cases e : c = k
    · rw [if_pos e]; rfl
    · rw [if_neg e]; rfl
  · by_cases e : c = k
    · rw [if_pos e]; rfl
    · rw [if_neg e]
      show some (ad.add k).block = some ad.block
      rw [add_block]
/-- make([]byte, 0, n) as one equation. -/
theorem mk_eq {P : Program} {t e : TypeId} (hP : ByteP P t e) (n : Nat) (hn : n ≤ 1000000000000) : ∃ Z : Array Value, (∀ W : World, (Instr.makeSlice t (.int .i64 0) (.int .i64 (n : Int))).run P W = .ok (.slice (some ⟨W.heap.size, 0, none⟩) 0 n) (W.alloc (.cells Z e))) ∧
    ∀ (W : World), Ow (W.alloc (.cells Z e)) W.heap.size e (.slice (some ⟨W.heap.size, 0, none⟩) 0 n) 0 [] := by
  obtain ⟨i, hi, hz, h1, h2⟩ := hP.info
  refine ⟨_, fun W => by
    have hr := run_make (P := P) W t e i (.int .u8 0) hP.slice hi hz .i64 .i64 0 (n : Int) (Int.le_refl _) (by omega) (by rw [h2]; omega) (by omega)
    simp only [Int.toNat_zero, Int.toNat_natCast] at hr
    exact hr, fun W => ?_⟩
  exact World.ownsRow_made W _ n (Nat.le_refl _) (by simp only [maxLen]; omega) (by rw [size_madeCells, h1])

section
variable {g base : Nat} {most : Int} {fb : Option Nat} {w w1 W : World} {A : Option Addr} {n c : Nat} {l : List UInt8} {t : List (List UInt8)} {gs : List Nat} {outv : Value} {e2 e3 : Addr} {R : Nat × List (List UInt8) × List UInt8}
theorem grown_of_drew {a w : World} {row : Option Nat} (h : a.drew.grownBy w row) : a.grownBy w row := ⟨h.os, h.tape, h.output, h.size, h.block⟩
theorem cell_new {W w3 : World} {o : Obj} {g k : Nat} {u : Value} (hg3 : (W.alloc o).grownBy w3 (some W.heap.size)) (hlt : g < W.heap.size) (h : W.cell? ⟨g, k, none⟩ = some u) : w3.cell? ⟨g, k, none⟩ = some u :=
  far_cell hg3 (by simp; omega) (by intro e; injection e with e; omega) ((World.cell?_alloc_lt W o ⟨g, k, none⟩ hlt).trans h)
theorem FW.kept (h : FW g base most fb w w1 W A n c l t gs outv) : Kept2 w W g fb :=
  ⟨h.grown.os.trans h.first.os, h.grown.tape.trans h.first.tape, h.grown.output.trans h.first.output, Nat.le_trans h.first.size h.grown.size, fun i hi h1 h2 =>
    (h.grown.block i (Nat.lt_of_lt_of_le hi h.first.size) (fun e => h1 (by injection e))).trans (h.first.block i hi h2)⟩
theorem FW.done (h : FW g base most fb w w1 W A n c l t gs outv) (hR : chw most l t = R) (hf : chw most l t = (0, t, l)) : FdPost g base most fb e2 e3 R w (.returned (.tuple #[outv, .nilIface])) W := by
  rw [← hR, hf]
  refine ⟨h.kept, .inl ⟨rfl, A, n, c, gs, outv, rfl, h.blk, h.om, h.own, ?_, ?_, ?_⟩⟩
  · exact h.told.lower h.first.size
  · intro k hk e
    have := (h.told.lt k hk).1
    have := h.old k e
    omega
  · exact own_lower h.out h.first.size
theorem FW.fault (h : FW g base most fb w w1 W A n c l t gs outv) (hR : chw most l t = R) (k : Nat) (hf : chw most l t = (k, [], [])) (hk : k = 1 ∨ k = 2) :
    FdPost g base most fb e2 e3 R w (.returned (.tuple #[.slice none 0 0, .iface 164 (.pointer (some (if k = 1 then e2 else e3)))])) ((W.setCell ⟨g, 2, none⟩ (.bool true)).setCell ⟨g, 1, none⟩ (.slice none 0 0)) := by
  rw [← hR, hf]
  have hb : RdB ((W.setCell ⟨g, 2, none⟩ (.bool true)).setCell ⟨g, 1, none⟩ (.slice none 0 0)) g most (.slice none 0 0) true := Blk.put (Blk.put h.blk 2 _) 1 _
  have hg : W.grownBy ((W.setCell ⟨g, 2, none⟩ (.bool true)).setCell ⟨g, 1, none⟩ (.slice none 0 0)) (some g) := grown_setCell (grown_setCell (World.grownBy.refl W _) 2 _) 1 _
  refine ⟨⟨hg.os.trans h.kept.os, hg.tape.trans h.kept.tape, hg.output.trans h.kept.output, Nat.le_trans h.kept.size hg.size, fun i hi h1 h2 =>
    (hg.block i (Nat.lt_of_lt_of_le hi h.kept.size) (fun e => h1 (by injection e))).trans (h.kept.block i hi h1 h2)⟩, ?_⟩
  rcases hk with rfl | rfl
  · exact .inr (.inl ⟨rfl, rfl, hb⟩)
  · exact .inr (.inr ⟨rfl, rfl, hb⟩)
variable {w3 w4 : World} {Z : Array Value} {nn : Nat} {mm : List UInt8} {v4 : Value} {A6 : Option Addr} {c6 : Nat}
theorem FW.mid (h : FW g base most fb w w1 W A n c l t gs outv) (hg3 : (W.alloc (.cells Z 5)).grownBy w3 (some W.heap.size)) (o : Obj) :
    (w3.alloc o).ownsRow w1.heap.size 53 1 outv gs.length (rows gs t) ∧ W.grownBy w3 (some W.heap.size) ∧ W.grownBy (w3.alloc o) (some W.heap.size) := by
  have h3 : W.grownBy w3 (some W.heap.size) := grown_trans (grown_alloc (World.grownBy.refl W _) _) hg3
  have h4 : W.grownBy (w3.alloc o) (some W.heap.size) := grown_alloc h3 o
  exact ⟨own_grown h.out h4 (fun b hb e => by have := (own_lt h.out hb).1; injection e with e; omega), h3, h4⟩
theorem FW.cell4 (h : FW g base most fb w w1 W A n c l t gs outv) (hg3 : (W.alloc (.cells Z 5)).grownBy w3 (some W.heap.size)) {o : Obj} (hg4 : (w3.alloc o).grownBy w4 outv.ownBlock) {k : Nat} {u : Value} (h3 : w3.cell? ⟨g, k, none⟩ = some u) :
    w4.cell? ⟨g, k, none⟩ = some u := by
  have e1 : outv.ownBlock ≠ some g := own_blk_ne h.out h.blk (by decide)
  have hlt : g < w3.heap.size := by
    have := h.blk.lt
    have := (h.mid hg3 o).2.1.size
    omega
  exact far_cell hg4 (by simp; omega) (Ne.symm e1) ((World.cell?_alloc_lt w3 o ⟨g, k, none⟩ hlt).trans h3)
theorem FW.more (h : FW g base most fb w w1 W A n c l t gs outv) (hl : mm.length = nn) (ho3 : Ow w3 W.heap.size 5 (.slice (some ⟨W.heap.size, 0, none⟩) nn nn) nn mm) (hg3 : (W.alloc (.cells Z 5)).grownBy w3 (some W.heap.size)) (cs : Array Value)
    (hr : w4.ownsRow w1.heap.size 53 1 v4 (gs.length + 1) (rows gs t ++ [.slice (some ⟨W.heap.size, 0, none⟩) nn nn])) (hg4 : (w3.alloc (.cells cs 53)).grownBy w4 outv.ownBlock)
    (hv4 : v4.ownBlock = outv.ownBlock ∨ v4.ownBlock = some (w3.heap.size + 1)) {k : Nat} (hk1 : 1 ≤ k) (hk : k ≤ n) (ho6 : Om W base (.slice A6 (n - k) c6) (n - k) (l.drop k)) (how6 : (Value.slice A6 (n - k) c6).ownBlock = (Value.slice A n c).ownBlock) :
    RdB w4 g most (.slice A n c) false ∧ FW g base most fb w w1 (w4.setCell ⟨g, 1, none⟩ (.slice A6 (n - k) c6)) A6 (n - k) c6 (l.drop k) (t ++ [mm]) (gs ++ [W.heap.size]) v4 := by
  obtain ⟨r1, r2, r3⟩ := h.mid hg3 (.cells cs 53)
  have hgW : g < W.heap.size := h.blk.lt
  have hw1 : w1.heap.size ≤ W.heap.size := h.grown.size
  have hob : ∀ b, outv.ownBlock = some b → w1.heap.size ≤ b ∧ b < W.heap.size := fun b hb => ⟨(own_lt h.out hb).2, (own_lt h.out hb).1⟩
  have b3 : Blk (w3.alloc (.cells cs 53)) W.heap.size 5 (mm.map bv).toArray := Blk.alloc ho3.blk.1 _
  have e1 : outv.ownBlock ≠ some g := own_blk_ne h.out h.blk (by decide)
  have hblk4 : RdB w4 g most (.slice A n c) false := Blk.grown (Blk.grown h.blk r3 (fun e => by injection e with e; omega)) hg4 (Ne.symm e1)
  have ht3 : Bks (w3.alloc (.cells cs 53)) w1.heap.size 5 gs t := h.told.grown r3 (fun k hk e => by have := (h.told.lt k hk).2; injection e with e; omega)
  have hne4 : ∀ k, Blk (w3.alloc (.cells cs 53)) k 5 (mm.map bv).toArray → some k ≠ outv.ownBlock := fun k hb => Ne.symm (own_blk_ne r1 hb (by decide))
  have ht4 : Bks w4 w1.heap.size 5 (gs ++ [W.heap.size]) (t ++ [mm]) := by
    refine (ht3.snoc hw1 b3 (fun k hk => (h.told.lt k hk).2)).grown hg4 (fun k hk e => ?_)
    rcases List.mem_append.1 hk with hk | hk
    · exact Bks.apart r1 (by decide) ht3 k hk e
    · obtain rfl : k = W.heap.size := by simpa using hk
      exact hne4 _ b3 e
  have hgk : ∀ k ∈ gs ++ [W.heap.size], some k ≠ some g := by
    intro k hk e
    injection e with e
    subst e
    rcases List.mem_append.1 hk with hk | hk
    · exact Bks.apart_blk h.blk (by decide) h.told k hk rfl
    · obtain rfl : k = W.heap.size := by simpa using hk
      omega
  have hs4 : w4.grownBy (w4.setCell ⟨g, 1, none⟩ (.slice A6 (n - k) c6)) (some g) := grown_setCell (World.grownBy.refl w4 _) 1 _
  have hne6 : ∀ b, (Value.slice A6 (n - k) c6).ownBlock = some b → b < w1.heap.size := fun b hb => h.old b (how6 ▸ hb)
  have hom : Om w4 base (.slice A6 (n - k) c6) (n - k) (l.drop k) := by
    have o3 := ho6.grown r3 (.inr (fun e => by have := hne6 _ e; omega))
    exact o3.grown hg4 (by
      rcases hx : outv.ownBlock with _ | b
      · rcases hy : (Value.slice A6 (n - k) c6).ownBlock with _ | b'
        · exact .inl rfl
        · exact .inr (by simp)
      · exact .inr (fun e => by have := hne6 b e; have := (hob b hx).1; omega))
  refine ⟨hblk4, h.first, fun e => h.far (how6 ▸ e), ?_, hne6, h.new, Blk.put hblk4 1 _, hom.grown hs4 (.inr (fun e => h.far (how6 ▸ e))), ht4.grown hs4 hgk, ?_, ?_, ?_⟩
  · rw [how6]; exact h.own
  · have e2 : rows (gs ++ [W.heap.size]) (t ++ [mm]) = rows gs t ++ [.slice (some ⟨W.heap.size, 0, none⟩) nn nn] := by rw [rows_snoc _ _ _ _ h.told.len, hl]
    rw [e2, show (gs ++ [W.heap.size]).length = gs.length + 1 by simp]
    refine own_grown hr hs4 (fun b hb e => ?_)
    injection e with e
    subst e
    rcases hv4 with hv | hv
    · exact e1 (hv ▸ hb)
    · rw [hv] at hb
      injection hb with hb
      have := r2.size
      omega
  · refine ⟨hs4.os.trans (hg4.os.trans (r3.os.trans h.grown.os)), hs4.tape.trans (hg4.tape.trans (r3.tape.trans h.grown.tape)), hs4.output.trans (hg4.output.trans (r3.output.trans h.grown.output)),
      Nat.le_trans hw1 (Nat.le_trans r3.size (Nat.le_trans hg4.size hs4.size)), fun i hi hne => ?_⟩
    have i1 : i < W.heap.size := by omega
    have i2 := Nat.lt_of_lt_of_le i1 r3.size
    have i3 := Nat.lt_of_lt_of_le i2 hg4.size
    refine (hs4.block i i3 hne).trans ((hg4.block i i2 (fun e => ?_)).trans ((r3.block i i1 (fun e => by injection e with e; omega)).trans (h.grown.block i hi hne)))
    have := (hob i e.symm).1
    omega
  · have := h.few
    simp
    omega
end

set_option maxHeartbeats 1000000 in
set_option maxRecDepth 100000 in
theorem feed_any (g : Nat) (most : Int) (v : Value) (n : Nat) (l : List UInt8) (A : Option Addr) (m c B base : Nat) (ys : List UInt8) (w : World) (e1 e2 e3 e4 : Addr) (he : EnvG w e1 e2 e3 e4)
    (hb : RdB w g most v false) (ho : Om w base v n l) (hvg : v.ownBlock ≠ some g) (hbase : base ≤ w.heap.size) (hg8 : 12 ≤ g) (hb8 : 12 ≤ base) (hr : Rd w B A m ys) (hB : B ≤ w.heap.size) (hnm : n + m ≤ 1000000000) :
    Calls Tryz.prog 18 #[.pointer (some ⟨g, 0, none⟩), .slice A m c] w (FdPost g base most v.ownBlock e2 e3 (chw most (l ++ ys) []) w) := by
  have c0 := Blk.cell hb 0
  have c1 := Blk.cell hb 1
  have c2 := Blk.cell hb 2
  have z1 := Blk.frozen hb 1
  have z2 := Blk.frozen hb 2
  simp only [List.getElem?_toArray, List.getElem?_cons_zero, List.getElem?_cons_succ] at c0 c1 c2
  have HO := Lib.hid ho
  have HB := Lib.hid hb
  have HE := Lib.hid he
  have HR := Lib.hid hr
  clear ho hb he hr
  go_enter Tryz.func18, Tryz.ntmps18
  go_wp2
  refine wp_scope_pass (fun a W => ∃ w1 A n c l' t gs outv, FW g base most v.ownBlock w w1 W A n c l' t gs outv ∧ FJ g most (chw most (l ++ ys) []) a l' t outv) (fun a W => muF W g) rfl rfl ?_ ?_
  · rintro a W ⟨w1, A1, n1, cp, l1, t, gs, outv, hw, hj⟩
    obtain ⟨u, rfl⟩ := fdFrame_lit a _ _ hj.dfr hj.size hj.s0 hj.s6
    have HG := Lib.hid hj.goes
    clear hj
    have HW := Lib.hid hw
    have d0 := Blk.cell hw.blk 0
    have d1 := Blk.cell hw.blk 1
    have d2 := Blk.cell hw.blk 2
    have y1 := Blk.frozen hw.blk 1
    have y2 := Blk.frozen hw.blk 2
    have hsz2 := hw.blk.lt
    simp only [List.getElem?_toArray, List.getElem?_cons_zero, List.getElem?_cons_succ] at d0 d1 d2
    have hl1 := hw.om.len
    have HL := Lib.hid hl1
    have hn1 : n1 ≤ 1000000000 := by have := hw.few; omega
    clear hl1
    have HEc := Lib.hid (hw.errs HE.out hg8 (fun b e => by have := (HO.out.lt e).2; omega))
    by_cases h0 : n1 = 0
    · have HD := Lib.hid (hw.done (e2 := e2) (e3 := e3) HG.out (chw_nil (by have := HL.out; omega)))
      subst h0
      clear hw
      go_wp2
      simp only [Exit.two]
      go_ret2
      exact HD.out
    obtain ⟨gf, off, hA1, hncp, hbgf, hgfl, hcell⟩ := hw.om.lit (by omega)
    subst hA1
    clear hw
    have hc0 := hcell 0 (by omega)
    rw [Nat.add_zero] at hc0
    obtain ⟨b0, hb0⟩ : ∃ b0, (l1.getD 0 0).toNat = b0 := ⟨_, rfl⟩
    rw [hb0] at hc0
    have HB0 := Lib.hid hb0
    have hb0l : b0 < 256 := by rw [← hb0]; exact (l1.getD 0 0).toNat_lt
    clear hb0
    have t0 : ((n1 : Int) == 0) = false := by simp; omega
    by_cases h1 : b0 = 0
    · by_cases h5 : n1 < 5
      · have HD := Lib.hid (HW.out.done (e2 := e2) (e3 := e3) HG.out (chw_short (by have := HL.out; omega) (by rw [HB0.out]; exact h1) (by have := HL.out; omega)))
        subst h1
        clear hcell
        go_wp2
        simp only [Exit.two]
        go_ret2
        exact HD.out
      have t5 : ¬ ((n1 : Int) < 5) := by omega
      subst h1
      have hc1 := hcell 1 (by omega)
      have hc2 := hcell 2 (by omega)
      have hc3 := hcell 3 (by omega)
      have hc4 := hcell 4 (by omega)
      have p1 : (1 : Int) < (n1 : Int) := by omega
      have p2 : (2 : Int) < (n1 : Int) := by omega
      have p3 : (3 : Int) < (n1 : Int) := by omega
      have p4 : (4 : Int) < (n1 : Int) := by omega
      clear hcell
      obtain ⟨b1, hb1⟩ : ∃ b1, (l1.getD 1 0).toNat = b1 := ⟨_, rfl⟩
      obtain ⟨b2, hb2⟩ : ∃ b2, (l1.getD 2 0).toNat = b2 := ⟨_, rfl⟩
      obtain ⟨b3, hb3⟩ : ∃ b3, (l1.getD 3 0).toNat = b3 := ⟨_, rfl⟩
      obtain ⟨b4, hb4⟩ : ∃ b4, (l1.getD 4 0).toNat = b4 := ⟨_, rfl⟩
      rw [hb1] at hc1
      rw [hb2] at hc2
      rw [hb3] at hc3
      rw [hb4] at hc4
      have hb1l : b1 < 256 := by rw [← hb1]; exact (l1.getD 1 0).toNat_lt
      have hb2l : b2 < 256 := by rw [← hb2]; exact (l1.getD 2 0).toNat_lt
      have hb3l : b3 < 256 := by rw [← hb3]; exact (l1.getD 3 0).toNat_lt
      have hb4l : b4 < 256 := by rw [← hb4]; exact (l1.getD 4 0).toNat_lt
      have hor := bits4 b1 b2 b3 b4 hb1l hb2l hb3l hb4l
      obtain ⟨nn, hnn⟩ : ∃ nn, n4 l1 = nn := ⟨_, rfl⟩
      rw [show b1 * 16777216 + b2 * 65536 + b3 * 256 + b4 = nn by rw [← hnn, ← hb1, ← hb2, ← hb3, ← hb4]; rfl] at hor
      have hnl : nn < 4294967296 := by rw [← hnn]; exact n4_lt l1
      have HNN := Lib.hid hnn
      clear hb1 hb2 hb3 hb4 hnn
      go_wp2
      go_quiet (fail)
      clear hor hc1 hc2 hc3 hc4 p1 p2 p3 p4 hb1l hb2l hb3l hb4l
      have HW2 := Lib.hid (HW.out.drewN nq)
      by_cases hm1 : most < (nn : Int)
      · have HD := Lib.hid (HW2.out.fault (e2 := e2) (e3 := e3) HG.out 2 (chw_long HB0.out (by have := HL.out; omega) (by rw [HNN.out]; exact hm1)) (.inr rfl))
        obtain ⟨q2, q3⟩ : W.cell? ⟨0, 0, none⟩ = some (.iface 164 (.pointer (some e3))) ∧ True := ⟨HEc.out.long, trivial⟩
        go_wp2
        go_step3
        refine Or.inr ⟨rfl, ?_⟩
        go_wp2
        rw [Exit.noGoto_ret]
        go_ret2
        exact HD.out
      by_cases hp : n1 < 5 + nn
      · have HD := Lib.hid (HW2.out.done (e2 := e2) (e3 := e3) HG.out (chw_part HB0.out (by have := HL.out; omega) (by rw [HNN.out]; omega) (by have := HL.out; rw [HNN.out]; omega)))
        go_wp2
        simp only [Exit.two]
        go_ret2
        exact HD.out
      obtain ⟨Z, hmk, hmo⟩ := mk_eq (P := Tryz.prog) byteP nn (by omega)
      obtain ⟨A5, hr5, hs5⟩ := sub_from (P := Tryz.prog) byteP (HW2.out.om.rd) (k := 5) (u := nn) 5 (5 + (nn : Int)) rfl rfl (by omega) HW2.out.om.cap
      obtain ⟨A6, ho6, how6, hs6⟩ := Om.from_ (P := Tryz.prog) byteP HW2.out.om (k := 5 + nn) (5 + (nn : Int)) (by omega) (by omega)
      have HMO := Lib.hid hmo
      have HR5 := Lib.hid hr5
      have HO6 := Lib.hid ho6
      have HOW6 := Lib.hid how6
      have q0 : IntKind.i64.wrap (5 + (nn : Int)) = 5 + (nn : Int) := IntWalk.i64_in _ (by omega)
      have q1 : (5 : Int) ≤ 5 + (nn : Int) := by omega
      have q2 : 5 + (nn : Int) ≤ (n1 : Int) := by omega
      have q3 : (n1 : Int) ≤ (cp : Int) := by omega
      clear hmo hr5 ho6 how6 y2
      go_wp2
      have d1' : (W.drewN nq).cell? ⟨g, 1, none⟩ = some (.slice (some ⟨gf, off, none⟩) n1 cp) := d1
      have y1' : (W.drewN nq).frozen? ⟨g, 1, none⟩ = false := y1
      clear d0 d1 d2 y1
      generalize W.drewN nq = W2 at *
      have hgW2 : g < W2.heap.size := HW2.out.blk.lt
      go_region_held3 (fun w' => w'.cell? ⟨g, 1, none⟩ = some (.slice (some ⟨gf, off, none⟩) n1 cp)) (first | go_keep | exact d3 | exact HW2.out.cell4 HG3.out hg4 d3) (first
        | (refine step_app_fits _ byteP (by rfl) (.tmp 97) (.tmp 104) (by rfl) W2.heap.size W2.heap.size 0 nn [] (by rfl) (HMO.out W2) _ A5 nn (cp - 5) _ (by rfl) (HR5.out.alloc (Nat.le_refl _) _) (by omega) ?_; intro w3 ho3 hg3; have hg3 := grown_of_drew hg3; have d3 := cell_new (W := W2) hg3 hgW2 d1'; have HO3 := Lib.hid ho3; have HG3 := Lib.hid hg3; clear ho3 hg3)
        | (refine step_app_rows _ rowP (by rfl) (.tmp 95) (.tmp 106) (by rfl) w1.heap.size outv gs.length (rows gs t) (by rfl) (HW2.out.mid HG3.out _).1 ⟨w3.heap.size, 0, none⟩ 1 1 [.slice (some ⟨W2.heap.size, 0, none⟩) nn nn] (by rfl) (by rfl) (cell_one_new _ _ _) (by intro u hu; obtain rfl : u = _ := (List.mem_singleton.1 hu); rfl) (by have := HW2.out.few; omega) (by have := HW2.out.grown.size; have := (HW2.out.mid HG3.out (.cells #[.slice (some ⟨W2.heap.size, 0, none⟩) nn nn] 53)).2.2.size; omega) ?_; intro v4 w4 ho4 hg4 hv4; try (have hg4 := grown_of_drew hg4))
        | fail)
      have HM := Lib.hid (HW2.out.more (mm := (l1.drop 5).take nn) (by have := HL.out; simp; omega) (by simpa using HO3.out) HG3.out _ ho4 hg4 (by simpa using hv4) (k := 5 + nn) (by omega) (by omega) HO6.out HOW6.out)
      have d4 := Blk.cell HM.out.1 1
      have y4 := Blk.frozen HM.out.1 1
      simp only [List.getElem?_toArray, List.getElem?_cons_zero, List.getElem?_cons_succ] at d4
      clear ho4 hg4 hv4 hg3 d3 d1' y1' q0 q1 q2 q3 hmk hs5
      have HG2 : Hid (chw most (l1.drop (5 + nn)) (t ++ [(l1.drop 5).take nn]) = chw most (l ++ ys) []) := Lib.hid (by
        rw [← HG.out]
        have := chw_more (most := most) (l := l1) (t := t) HB0.out (by rw [HNN.out]; omega) (by have := HL.out; rw [HNN.out]; omega)
        rw [HNN.out] at this
        exact this.symm)
      have HMU : Hid (muF (w4.setCell ⟨g, 1, none⟩ (.slice A6 (n1 - (5 + nn)) (cp - (5 + nn)))) g = n1 - (5 + nn) ∧ muF W g = n1) := Lib.hid ⟨by
        unfold muF
        rw [Blk.cell HM.out.2.blk 1]
        rfl, by
        unfold muF
        rw [Blk.cell HW.out.blk 1]
        rfl⟩
      go_wp2
      go_step3
      exact .inl ⟨rfl, ⟨w1, A6, n1 - (5 + nn), cp - (5 + nn), l1.drop (5 + nn), t ++ [(l1.drop 5).take nn], gs ++ [W2.heap.size], v4, HM.out.2, rfl, rfl, rfl, rfl, HG2.out⟩, by rw [HMU.out.1, HMU.out.2]; omega⟩
    · have HD := Lib.hid (HW.out.fault (e2 := e2) (e3 := e3) HG.out 1 (chw_frame (by have := HL.out; omega) (by rw [HB0.out]; exact h1)) (.inl rfl))
      obtain ⟨q2, q3⟩ : W.cell? ⟨5, 0, none⟩ = some (.iface 164 (.pointer (some e2))) ∧ True := ⟨HEc.out.frame, trivial⟩
      have t1 : ((b0 : Int) != 0) = true := by simp; omega
      clear hcell
      go_wp2
      go_step3
      refine Or.inr ⟨rfl, ?_⟩
      go_wp2
      rw [Exit.noGoto_ret]
      go_ret2
      exact HD.out
  · intro hp
    have HP := Lib.hid hp
    clear hp
    go_wp2_with (
       at_builtin
       refine wpList_app_mid _ byteP rfl (.tmp 18) (.tmp 19) rfl base v n l rfl HO.out hbase A m c B ys rfl HR.out ?_ ?_
       · omega
       intro A1 cap1 w1 ho1 hg1 hw1 hc1
       have hb1 := Blk.grown HB.out hg1 (Ne.symm hvg)
       have c1' := Blk.cell hb1 1
       have z1' := Blk.frozen hb1 1
       simp only [List.getElem?_toArray, List.getElem?_cons_zero, List.getElem?_cons_succ] at c1'
       have hsz := hg1.size
       have HB1 := Lib.hid hb1
       have HO1 := Lib.hid ho1
       have HG1 := Lib.hid hg1
       have HW1 := Lib.hid hw1
       clear ho1 hg1 hw1 hb1)
    go_step3
    have hne : (Value.slice A1 (n + m) cap1).ownBlock ≠ some g := by
      rcases HW1.out with e | ⟨b, e, hb⟩
      · rw [e]; exact hvg
      · rw [e]; intro e'; injection e' with e'; have := Blk.lt HB.out; omega
    rename_i hK
    refine hK _ _ (HP.out _ _ ?_)
    exact ⟨w1, A1, n + m, cap1, l ++ ys, [], [], .slice none 0 0, ⟨HG1.out, hne, HW1.out.imp id .inr, fun b hb => (HO1.out.lt hb).1, Blk.lt HB.out, Blk.put HB1.out 1 _, HO1.out.grown (grown_setCell (World.grownBy.refl w1 _) 1 _) (.inr hne), trivial, ⟨rfl, .inl ⟨rfl, rfl⟩⟩, grown_setCell (World.grownBy.refl w1 _) 1 _, by simp; omega⟩, rfl, rfl, rfl, rfl, rfl⟩
end Go.Proofs.YtoafmhbgbofgoaaGreatDoor.Gp
