/-
  Contracts: chain.sorts: the kinds of rules as a map.
-/
import Derived.Test.YthokfopeddaiiaaGreatDoorProg
import Derived.Test.YthokfopeddaiiaaGreatDoorFn
import Derived.Deep.RegionWith
import Derived.Laws.EntriesVeiled
namespace Go.Proofs.YthokfopeddaiiaaGreatDoor
open Go.RowKit Go.Own Go.Own.Fn
def fnv (f : Nat) : Value := .func (.func f) #[] #[]
def fcv (f b : Nat) : Value := .func (.func f) #[] #[.pointer (some ⟨b, 0, none⟩)]
def ent (k : Int) (v : Value) (n : Nat) : MapEntry := { key := .int .i64 k, val := v, born := n }
def sortsMap (b e3 e4 e5 : Nat) : Obj := .map #[ent 1 (.agg #[fnv 53, fnv 54]) 0, ent 2 (.agg #[fnv 59, fnv 60]) 1, ent 3 (.agg #[fcv 64 b, fcv 94 e3]) 2, ent 4 (.agg #[fcv 68 b, fcv 94 e4]) 3, ent 5 (.agg #[fcv 72 b, fcv 94 e5]) 4, ent 6 (.agg #[fnv 53, fnv 74]) 5] 6
theorem ends_any (f : Nat) (w : World) :
    Calls Tryz.prog 65 #[.func (.func f) #[] #[]] w fun e w' => e = .returned (.func (.func 94) #[] #[.pointer (some ⟨w.heap.size, 0, none⟩)]) ∧ w' = w.alloc (.cells #[.func (.func f) #[] #[]] 99) := by
  go_enter Tryz.func65, Tryz.ntmps65
  go_wp2
  go_ret
  exact ⟨rfl, rfl⟩
/-- Where the map of the kinds lies. -/
structure Srt (w w' : World) (m b e3 e4 e5 : Nat) : Prop where
  bel : Below w.heap.size w w'
  map : w'.heap[m]? = some (sortsMap b e3 e4 e5)
  hb : Blk w' b 67 #[fnv 52]
  h3 : Blk w' e3 99 #[fnv 66]
  h4 : Blk w' e4 99 #[fnv 69]
  h5 : Blk w' e5 99 #[fnv 73]
  lb : w.heap.size ≤ b ∧ w.heap.size ≤ e3 ∧ w.heap.size ≤ e4 ∧ w.heap.size ≤ e5 ∧ w.heap.size ≤ m
def SrtPost (w : World) (e : Ending) (w' : World) : Prop := ∃ m b e3 e4 e5, e = .returned (.map (some m)) ∧ Srt w w' m b e3 e4 e5
set_option maxRecDepth 100000 in
set_option maxHeartbeats 1000000 in
theorem sorts_any (w : World) : Calls Tryz.prog 34 #[] w (SrtPost w) := by
  have hmm := @run_mkMap Tryz.prog
  have h0 : ((w.alloc (.cells #[.func (.func 52) #[] #[]] 67)).alloc (.map #[] 0)).heap[w.heap.size + 1]? = some (.map #[] 0) := by
    have := heap_alloc_new (w.alloc (.cells #[.func (.func 52) #[] #[]] 67)) (.map #[] 0)
    simpa using this
  go_enter Tryz.func34, Tryz.ntmps34
  go_wp2_with (first
    | ((with_reducible refine wpList_insert _ rfl (.tmp 3) (.const (.int .i64 1)) _ rfl Tryz.underlying72 Tryz.underlying3 (w.heap.size + 1) 0 #[] 1 (.agg #[fnv 53, fnv 54]) rfl rfl ?_ ?_ ?_ ?_)
       · rfl
       · exact h0
       · rfl
       intro w1 hm1 hg1)
    | ((with_reducible refine wpList_insert _ rfl (.tmp 3) (.const (.int .i64 2)) _ rfl Tryz.underlying72 Tryz.underlying3 (w.heap.size + 1) 1 #[ent 1 (.agg #[fnv 53, fnv 54]) 0] 2 (.agg #[fnv 59, fnv 60]) rfl rfl ?_ ?_ ?_ ?_)
       · rfl
       · exact hm1
       · rfl
       intro w2 hm2 hg2))
  refine (ends_any 66 _).mono ?_
  rintro e wx ⟨rfl, rfl⟩
  have hs2 : w.heap.size + 2 ≤ w2.heap.size := by have := hg1.size; have := hg2.size; simp at *; omega
  go_wp2_with (first
    | ((with_reducible refine wpList_insert _ rfl (.tmp 3) (.const (.int .i64 3)) _ rfl Tryz.underlying72 Tryz.underlying3 (w.heap.size + 1) 2 #[ent 1 (.agg #[fnv 53, fnv 54]) 0, ent 2 (.agg #[fnv 59, fnv 60]) 1] 3 (.agg #[fcv 64 w.heap.size, fcv 94 w2.heap.size]) rfl rfl ?_ ?_ ?_ ?_)
       · rfl
       · exact (Below.heap_alloc w2 _ _ (by omega)).trans hm2
       · rfl
       intro w3 hm3 hg3))
  refine (ends_any 69 _).mono ?_
  rintro e wx ⟨rfl, rfl⟩
  have hs3 : w2.heap.size + 1 ≤ w3.heap.size := by have := hg3.size; simp at *; omega
  go_wp2_with (first
    | ((with_reducible refine wpList_insert _ rfl (.tmp 3) (.const (.int .i64 4)) _ rfl Tryz.underlying72 Tryz.underlying3 (w.heap.size + 1) 3 #[ent 1 (.agg #[fnv 53, fnv 54]) 0, ent 2 (.agg #[fnv 59, fnv 60]) 1, ent 3 (.agg #[fcv 64 w.heap.size, fcv 94 w2.heap.size]) 2] 4 (.agg #[fcv 68 w.heap.size, fcv 94 w3.heap.size]) rfl rfl ?_ ?_ ?_ ?_)
       · rfl
       · exact (Below.heap_alloc w3 _ _ (by omega)).trans hm3
       · rfl
       intro w4 hm4 hg4))
  refine (ends_any 73 _).mono ?_
  rintro e wx ⟨rfl, rfl⟩
  have hs4 : w3.heap.size + 1 ≤ w4.heap.size := by have := hg4.size; simp at *; omega
  go_wp2_with (first
    | ((with_reducible refine wpList_insert _ rfl (.tmp 3) (.const (.int .i64 5)) _ rfl Tryz.underlying72 Tryz.underlying3 (w.heap.size + 1) 4 #[ent 1 (.agg #[fnv 53, fnv 54]) 0, ent 2 (.agg #[fnv 59, fnv 60]) 1, ent 3 (.agg #[fcv 64 w.heap.size, fcv 94 w2.heap.size]) 2, ent 4 (.agg #[fcv 68 w.heap.size, fcv 94 w3.heap.size]) 3] 5 (.agg #[fcv 72 w.heap.size, fcv 94 w4.heap.size]) rfl rfl ?_ ?_ ?_ ?_)
       · rfl
       · exact (Below.heap_alloc w4 _ _ (by omega)).trans hm4
       · rfl
       intro w5 hm5 hg5)
    | ((with_reducible refine wpList_insert _ rfl (.tmp 3) (.const (.int .i64 6)) _ rfl Tryz.underlying72 Tryz.underlying3 (w.heap.size + 1) 5 #[ent 1 (.agg #[fnv 53, fnv 54]) 0, ent 2 (.agg #[fnv 59, fnv 60]) 1, ent 3 (.agg #[fcv 64 w.heap.size, fcv 94 w2.heap.size]) 2, ent 4 (.agg #[fcv 68 w.heap.size, fcv 94 w3.heap.size]) 3, ent 5 (.agg #[fcv 72 w.heap.size, fcv 94 w4.heap.size]) 4] 6 (.agg #[fnv 53, fnv 74]) rfl rfl ?_ ?_ ?_ ?_)
       · rfl
       · exact hm5
       · rfl
       intro w6 hm6 hg6))
  go_ret
  have B0 : Blk ((w.alloc (.cells #[.func (.func 52) #[] #[]] 67)).alloc (.map #[] 0)) w.heap.size 67 #[fnv 52] := (Blk.new _ _ _).alloc _
  have n0 : some w.heap.size ≠ some (w.heap.size + 1) := by simp
  have n3 : some w2.heap.size ≠ some (w.heap.size + 1) := fun e => by have := Option.some.inj e; omega
  have n4 : some w3.heap.size ≠ some (w.heap.size + 1) := fun e => by have := Option.some.inj e; omega
  have n5 : some w4.heap.size ≠ some (w.heap.size + 1) := fun e => by have := Option.some.inj e; omega
  have r : ∀ k, some (w.heap.size + 1) = some k → w.heap.size ≤ k := fun k e => by have := Option.some.inj e; omega
  have b0 : Below w.heap.size w ((w.alloc (.cells #[.func (.func 52) #[] #[]] 67)).alloc (.map #[] 0)) := ((Below.refl _ _).alloc (Nat.le_refl _) _).alloc (by simp) _
  have b2 : Below w.heap.size w w2 := (b0.grown hg1 (by simp; omega) r).grown hg2 (by have := hg1.size; simp at *; omega) r
  have b3 : Below w.heap.size w w3 := (b2.alloc b2.size _).grown hg3 (by simp; omega) r
  have b4 : Below w.heap.size w w4 := (b3.alloc b3.size _).grown hg4 (by simp; omega) r
  have b5 : Below w.heap.size w w5 := (b4.alloc b4.size _).grown hg5 (by simp; omega) r
  refine ⟨w.heap.size + 1, w.heap.size, w2.heap.size, w3.heap.size, w4.heap.size, rfl, b5.grown hg6 b5.size r, hm6, ?_, ?_, ?_, ?_, Nat.le_refl _, b2.size, b3.size, b4.size, Nat.le_succ _⟩
  · exact ((((((B0.grown hg1 n0).grown hg2 n0).alloc _).grown hg3 n0).alloc _).grown hg4 n0 |>.alloc _ |>.grown hg5 n0).grown hg6 n0
  · exact ((((((Blk.new w2 _ _).grown hg3 n3).alloc _).grown hg4 n3).alloc _).grown hg5 n3).grown hg6 n3
  · exact ((((Blk.new w3 _ _).grown hg4 n4).alloc _).grown hg5 n4).grown hg6 n4
  · exact ((Blk.new w4 _ _).grown hg5 n5).grown hg6 n5
end Go.Proofs.YthokfopeddaiiaaGreatDoor
