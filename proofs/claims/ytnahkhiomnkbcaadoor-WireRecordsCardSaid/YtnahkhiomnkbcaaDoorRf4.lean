/-
  Contracts: parleyref1.Next, parleylaw1.is at equal records.
-/
import Derived.Test.YtnahkhiomnkbcaaDoorRf3
namespace Go.Proofs.YtnahkhiomnkbcaaDoor
open Go.RowKit Go.Own Go.Own.Wire

theorem next0 (A : Option Addr) (n c : Nat) (l : List UInt8) (w : World) (B : Nat) (hr : Rd w B A n l) (hB : B ≤ w.heap.size) (hn : n ≤ 1000000000000) (hnc : n ≤ c) :
    Calls Tryd.prog 32 #[.slice A n c, .int .i64 0] w (RPost w (next l)) :=
  (grp_all 32 (Nat.le_refl _)).2 A n c l w B hr hB hn hnc

theorem results_Next (tmps : Array Value) (w : World) (g : Nat) (a b c d : Value) (ht : tmps[2]? = some (.pointer (some ⟨g, 0, none⟩))) (hb : Blk w g 36 #[a, b, c, d]) :
    (results Tryd.f13 tmps).run Tryd.prog w = .ok (.tuple #[.agg #[a, b, c, d], tmps.getD 3 undef, tmps.getD 4 undef]) w := by
  have c0 : w.cell? ⟨g, 0, none⟩ = some a := hb.cell 0
  have c1 : w.cell? ⟨g, 1, none⟩ = some b := hb.cell 1
  have c2 : w.cell? ⟨g, 2, none⟩ = some c := hb.cell 2
  have c3 : w.cell? ⟨g, 3, none⟩ = some d := hb.cell 3
  simp [results, Tryd.results13, go_sem, ht, c0, c1, c2, c3]

set_option maxHeartbeats 1000000 in
set_option maxRecDepth 100000 in
theorem r_Next_res (A : Option Addr) (n c : Nat) (l : List UInt8) (w : World) (B : Nat) (hr : Rd w B A n l) (hB : B ≤ w.heap.size) (hn : n ≤ 1000000000000) (hnc : n ≤ c) (res : Except Nat (Rec × Nat)) (hres : next l = res) :
    Calls Tryd.prog 13 #[.slice A n c] w (RPost w res) := by
  have HR := Lib.hid hr
  have HS := Lib.hid hres
  clear hr hres
  go_enter Tryd.func13, Tryd.ntmps13
  go_wp2_with fail
  have HB0 := Lib.hid ((Below.refl w.heap.size w).alloc (Nat.le_refl _) (.cells #[.int .i64 0, .int .i64 0, .int .u64 0, .slice none 0 0] 36))
  have HK0 := Lib.hid (Blk.new w 36 #[.int .i64 0, .int .i64 0, .int .u64 0, .slice none 0 0])
  generalize w.alloc _ = W0 at HB0 HK0 ⊢
  refine (next0 A n c l _ B (by exact HR.out.below (HB0.out.mono hB)) (Nat.le_trans hB HB0.out.size) hn hnc).mono ?_
  have hs0 := HK0.out.lt
  rw [HS.out]
  rcases res with x | ⟨r, m⟩
  · rintro z W3 ⟨rfl, hb3⟩
    have HB3 := Lib.hid (HB0.out.trans (hb3.mono HB0.out.size))
    have HK3 := Lib.hid (HK0.out.below hb3 HK0.out.lt)
    clear HB0 HK0 hb3
    unfold recCells
    have z0 := HK3.out.frozen 0
    have z1 := HK3.out.frozen 1
    have z2 := HK3.out.frozen 2
    have z3 := HK3.out.frozen 3
    have k0 : W3.cell? ⟨w.heap.size, 0, none⟩ = some (.int .i64 0) := HK3.out.cell 0
    have k1 : W3.cell? ⟨w.heap.size, 1, none⟩ = some (.int .i64 0) := HK3.out.cell 1
    have k2 : W3.cell? ⟨w.heap.size, 2, none⟩ = some (.int .u64 0) := HK3.out.cell 2
    have k3 : W3.cell? ⟨w.heap.size, 3, none⟩ = some (.slice none 0 0) := HK3.out.cell 3
    go_wp2
    refine bodyPost_ret (results_Next _ _ w.heap.size _ _ _ _ rfl ((((HK3.out.put 0 _).put 1 _).put 2 _).put 3 _)) rfl ?_
    exact ⟨rfl, (((HB3.out.setCell (Nat.le_refl _) _).setCell (Nat.le_refl _) _).setCell (Nat.le_refl _) _).setCell (Nat.le_refl _) _⟩
  · rintro z W3 ⟨v, rfl, ho, hb3⟩
    have HB3 := Lib.hid (HB0.out.trans (hb3.mono HB0.out.size))
    have HK3 := Lib.hid (HK0.out.below hb3 HK0.out.lt)
    obtain ⟨Av, cv, rfl, _, _, _⟩ := ho.form
    have HO := Lib.hid ho
    clear HB0 HK0 hb3 ho
    unfold recCells
    have z0 := HK3.out.frozen 0
    have z1 := HK3.out.frozen 1
    have z2 := HK3.out.frozen 2
    have z3 := HK3.out.frozen 3
    have k0 : W3.cell? ⟨w.heap.size, 0, none⟩ = some (.int .i64 0) := HK3.out.cell 0
    have k1 : W3.cell? ⟨w.heap.size, 1, none⟩ = some (.int .i64 0) := HK3.out.cell 1
    have k2 : W3.cell? ⟨w.heap.size, 2, none⟩ = some (.int .u64 0) := HK3.out.cell 2
    have k3 : W3.cell? ⟨w.heap.size, 3, none⟩ = some (.slice none 0 0) := HK3.out.cell 3
    go_wp2
    refine bodyPost_ret (results_Next _ _ w.heap.size _ _ _ _ rfl ((((HK3.out.put 0 _).put 1 _).put 2 _).put 3 _)) rfl ?_
    refine ⟨_, rfl, ?_, (((HB3.out.setCell (Nat.le_refl _) _).setCell (Nat.le_refl _) _).setCell (Nat.le_refl _) _).setCell (Nat.le_refl _) _⟩
    refine (HO.out.grown (row := some w.heap.size) (grown_setCell (grown_setCell (grown_setCell (grown_setCell (grown_of_below (Below.refl _ _) _) 0 _) 1 _) 2 _) 3 _) ?_).base (by omega)
    exact far_own HO.out hs0

theorem r_Next_any (A : Option Addr) (n c : Nat) (l : List UInt8) (w : World) (B : Nat) (hr : Rd w B A n l) (hB : B ≤ w.heap.size) (hn : n ≤ 1000000000000) (hnc : n ≤ c) :
    Calls Tryd.prog 13 #[.slice A n c] w (RPost w (next l)) := r_Next_res A n c l w B hr hB hn hnc _ rfl

set_option maxHeartbeats 1000000 in
set_option maxRecDepth 100000 in
theorem is_any (f k u : Nat) (A A2 : Option Addr) (n c n2 c2 : Nat) (l : List UInt8) (w : World) (B B2 : Nat) (hr : Rd w B A n l) (hr2 : Rd w B2 A2 n2 l) (hB : B ≤ w.heap.size) (hB2 : B2 ≤ w.heap.size) :
    Calls Tryd.prog 14 #[.agg (recCells f k u (.slice A n c)), .agg (recCells f k u (.slice A2 n2 c2))] w fun e w' => e = .returned (.bool true) ∧ Below w.heap.size w w' := by
  have HR := Lib.hid hr
  have HR2 := Lib.hid hr2
  clear hr hr2
  unfold recCells
  go_enter Tryd.func14, Tryd.ntmps14
  go_wp2_with fail
  refine (sameBytes_any A A2 n n2 c c2 l l _ B B2 (by exact (HR.out.alloc hB _).alloc (by simp; omega) _) (by exact (HR2.out.alloc hB2 _).alloc (by simp; omega) _)).mono ?_
  rintro e W ⟨rfl, rfl⟩
  rw [decide_eq_true (rfl : l = l)]
  go_wp2
  go_ret
  exact ⟨rfl, ((Below.refl _ _).alloc (Nat.le_refl _) _).alloc (by simp) _⟩
end Go.Proofs.YtnahkhiomnkbcaaDoor
