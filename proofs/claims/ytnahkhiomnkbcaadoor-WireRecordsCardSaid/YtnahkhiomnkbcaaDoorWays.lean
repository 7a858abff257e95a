/-
  Contracts: wire.ways: the functions by kinds.
-/
import Derived.Test.YtnahkhiomnkbcaaDoorProg
import Derived.Test.YtnahkhiomnkbcaaDoorUv
import Derived.Test.YtnahkhiomnkbcaaDoorMk
namespace Go.Proofs.YtnahkhiomnkbcaaDoor
open Go.RowKit Go.Own Go.Own.Wire

set_option maxHeartbeats 400000 in
theorem ways1_any (r : Int) (w : World) :
    Calls Tryd.prog 34 #[.int .i64 r] w fun e w' => e = .returned (.func (.func 35) #[] #[.pointer (some ⟨w.heap.size, 0, none⟩)]) ∧ w' = w.alloc (.cells #[.int .i64 r] 3) := by
  go_enter Tryd.func34, Tryd.ntmps34
  go_wp2
  go_ret
  exact ⟨rfl, rfl⟩


/-- A function that captures nothing; the closure over a number of bytes that lies in block b. -/
def fnv (f : Nat) : Value := .func (.func f) #[] #[]
def fixv (b : Nat) : Value := .func (.func 35) #[] #[.pointer (some ⟨b, 0, none⟩)]
def ent (k : Int) (v : Value) (n : Nat) : MapEntry := { key := .int .i64 k, val := v, born := n }
def waysMap (b1 b2 : Nat) : Obj := .map #[ent 0 (fnv 36) 0, ent 1 (fixv b1) 1, ent 5 (fixv b2) 2, ent 2 (fnv 37) 3, ent 3 (fnv 38) 4] 5

set_option maxHeartbeats 400000 in
theorem ways_any (w : World) :
    Calls Tryd.prog 29 #[] w fun e w' => ∃ b1 b2, e = .returned (.map (some w.heap.size)) ∧ Below w.heap.size w w' ∧ w'.heap[w.heap.size]? = some (waysMap b1 b2) ∧
      w'.cell? ⟨b1, 0, none⟩ = some (.int .i64 8) ∧ w'.cell? ⟨b2, 0, none⟩ = some (.int .i64 4) ∧ w.heap.size < b1 ∧ w.heap.size < b2 := by
  have hmm := @run_mkMap Tryd.prog
  go_enter Tryd.func29, Tryd.ntmps29
  go_wp2_with (first
    | ((with_reducible refine wpList_insert _ rfl (.tmp 2) (.const (.int .i64 0)) _ rfl Tryd.underlying68 Tryd.underlying3 w.heap.size 0 #[] 0 (fnv 36) rfl rfl ?_ ?_ ?_ ?_)
       · rfl
       · exact heap_alloc_new w _
       · rfl
       intro w1 hm1 hg1))
  refine (ways1_any 8 _).mono ?_
  rintro e w2 ⟨rfl, rfl⟩
  have hs1 : w.heap.size + 1 ≤ w1.heap.size := by have := hg1.size; simp at this; omega
  go_wp2_with (first
    | ((with_reducible refine wpList_insert _ rfl (.tmp 2) (.const (.int .i64 1)) _ rfl Tryd.underlying68 Tryd.underlying3 w.heap.size 1 #[ent 0 (fnv 36) 0] 1 (fixv w1.heap.size) rfl rfl ?_ ?_ ?_ ?_)
       · rfl
       · exact (Below.heap_alloc w1 _ _ (by omega)).trans hm1
       · rfl
       intro w3 hm3 hg3))
  refine (ways1_any 4 _).mono ?_
  rintro e w4 ⟨rfl, rfl⟩
  have hs3 : w1.heap.size + 1 ≤ w3.heap.size := by have := hg3.size; simp at this; omega
  go_wp2_with (first
    | ((with_reducible refine wpList_insert _ rfl (.tmp 2) (.const (.int .i64 5)) _ rfl Tryd.underlying68 Tryd.underlying3 w.heap.size 2 #[ent 0 (fnv 36) 0, ent 1 (fixv w1.heap.size) 1] 5 (fixv w3.heap.size) rfl rfl ?_ ?_ ?_ ?_)
       · rfl
       · exact (Below.heap_alloc w3 _ _ (by omega)).trans hm3
       · rfl
       intro w5 hm5 hg5)
    | ((with_reducible refine wpList_insert _ rfl (.tmp 2) (.const (.int .i64 2)) _ rfl Tryd.underlying68 Tryd.underlying3 w.heap.size 3 #[ent 0 (fnv 36) 0, ent 1 (fixv w1.heap.size) 1, ent 5 (fixv w3.heap.size) 2] 2 (fnv 37) rfl rfl ?_ ?_ ?_ ?_)
       · rfl
       · exact hm5
       · rfl
       intro w6 hm6 hg6)
    | ((with_reducible refine wpList_insert _ rfl (.tmp 2) (.const (.int .i64 3)) _ rfl Tryd.underlying68 Tryd.underlying3 w.heap.size 4 #[ent 0 (fnv 36) 0, ent 1 (fixv w1.heap.size) 1, ent 5 (fixv w3.heap.size) 2, ent 2 (fnv 37) 3] 3 (fnv 38) rfl rfl ?_ ?_ ?_ ?_)
       · rfl
       · exact hm6
       · rfl
       intro w7 hm7 hg7))
  go_ret
  refine ⟨w1.heap.size, w3.heap.size, rfl, ?_, hm7, ?_, ?_, by omega, by omega⟩
  · have b1 : Below w.heap.size w w1 := ((Below.refl _ _).alloc (Nat.le_refl _) _).grown hg1 (by simp) (by simp)
    have b3 : Below w.heap.size w w3 := (b1.alloc b1.size _).grown hg3 (by simp; omega) (by simp)
    have b5 : Below w.heap.size w w5 := (b3.alloc b3.size _).grown hg5 (by simp; omega) (by simp)
    have b6 : Below w.heap.size w w6 := b5.grown hg6 b5.size (by simp)
    exact b6.grown hg7 b6.size (by simp)
  · have c1 : (w1.alloc (.cells #[.int .i64 8] 3)).cell? ⟨w1.heap.size, 0, none⟩ = some (.int .i64 8) := (Blk.new w1 _ _).cell 0
    have c3 := hg3.cell c1 (by simp; omega)
    have c4 : (w3.alloc (.cells #[.int .i64 4] 3)).cell? ⟨w1.heap.size, 0, none⟩ = some (.int .i64 8) := (World.cell?_alloc_lt w3 _ _ (by simp; omega)).trans c3
    exact hg7.cell (hg6.cell (hg5.cell c4 (by simp; omega)) (by simp; omega)) (by simp; omega)
  · have c4 : (w3.alloc (.cells #[.int .i64 4] 3)).cell? ⟨w3.heap.size, 0, none⟩ = some (.int .i64 4) := (Blk.new w3 _ _).cell 0
    exact hg7.cell (hg6.cell (hg5.cell c4 (by simp; omega)) (by simp; omega)) (by simp; omega)
end Go.Proofs.YtnahkhiomnkbcaaDoor
