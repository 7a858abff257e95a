/-
  Contracts: table.New, hpack.NewEncoder, NewDecoder.
  Contracts: flow.New, conn.window, flow.Both.
  Contracts: the prefaces: frame.Preface, parleyref5.Preface.
-/
import Derived.Test.YtkpppjhbmnfmkaaGreatDoorFb
import Derived.Laws.MakeOwn
import Derived.LaidEqlPtr
import Derived.Lib.SlBytesConst
set_option linter.unusedSimpArgs false
set_option linter.unusedVariables false
section
namespace Go.Proofs.YtkpppjhbmnfmkaaGreatDoor
open Go.RowKit Go.Own Go.Own.Fr
theorem hdrInfo : (Tryz.prog.info? 63).map (fun i => (i.zero, i.size, i.bytes)) = some (some (.agg #[.string ⟨#[]⟩, .string ⟨#[]⟩, .bool false]), 3, 40) := by kernel_rfl
/-- A ring of headers without anything. -/
def Ring0 (cs : Array Value) : Prop := cs.size = 384 ∧ ∀ j, j < 128 → cs[j * 3]? = some (.string ⟨#[]⟩) ∧ cs[j * 3 + 1]? = some (.string ⟨#[]⟩) ∧ cs[j * 3 + 2]? = some (.bool false)
theorem make_ring : ∃ cs : Array Value, Ring0 cs ∧ ∀ W : World, (Instr.makeSlice 41 (.int .i64 128) (.int .i64 128)).run Tryz.prog W = .ok (.slice (some ⟨W.heap.size, 0, none⟩) 128 128) (W.alloc (.cells cs 63)) := by
  obtain ⟨i, hi, hz, h1, h2⟩ := info_parts hdrInfo
  refine ⟨madeCells (Value.agg #[.string ⟨#[]⟩, .string ⟨#[]⟩, .bool false]).cells ((128 : Int).toNat * i.size), ?_, fun W => ?_⟩
  · rw [h1]
    refine ⟨by simp [madeCells], fun j hj => ?_⟩
    have e : ((128 : Int).toNat * 3) = 384 := rfl
    rw [e]
    unfold madeCells
    have h0 : j * 3 < 384 := by omega
    have h1 : j * 3 + 1 < 384 := by omega
    have h2 : j * 3 + 2 < 384 := by omega
    have m0 : j * 3 % 3 = 0 := by omega
    have m1 : (j * 3 + 1) % 3 = 1 := by omega
    have m2 : (j * 3 + 2) % 3 = 2 := by omega
    simp [h0, h1, h2, m0, m1, m2, Value.cells]
  · exact run_make W 41 63 i _ Tryz.underlying41 hi hz .i64 .i64 128 128 (by omega) (by omega) (by rw [h2]; omega) (by omega)
/-- A table without a header. -/
def Tab0 (w : World) (g : Nat) : Prop := ∃ (r : Nat) (cs : Array Value), g = r + 1 ∧ Blk w g 179 #[.slice (some ⟨r, 0, none⟩) 128 128, .int .i64 0, .int .i64 0, .int .i64 0, .int .i64 4096] ∧ Blk w r 63 cs ∧ Ring0 cs
set_option maxHeartbeats 1000000 in
set_option maxRecDepth 100000 in
theorem tabNew_any (w : World) : Calls Tryz.prog 65 #[.int .i64 4096] w fun e w' => e = .returned (.tuple #[.pointer (some ⟨w.heap.size + 1, 0, none⟩), .nilIface]) ∧
    Tab0 w' (w.heap.size + 1) ∧ w'.heap.size = w.heap.size + 2 ∧ Below w.heap.size w w' := by
  obtain ⟨cs, hcs, hmk⟩ := make_ring
  go_enter Tryz.func65, Tryz.ntmps65
  go_wp2
  go_ret2
  refine ⟨rfl, ⟨w.heap.size, cs, rfl, ?_, (Blk.new w _ cs).alloc _, hcs⟩, by simp, ((Below.refl _ _).alloc (Nat.le_refl _) _).alloc (by simp) _⟩
  have h := Blk.new (w.alloc (.cells cs 63)) 179 #[.slice (some ⟨w.heap.size, 0, none⟩) 128 128, .int .i64 0, .int .i64 0, .int .i64 0, .int .i64 4096]
  rw [show (w.alloc (.cells cs 63)).heap.size = w.heap.size + 1 by simp] at h
  exact h
theorem Tab0.alloc {w : World} {g : Nat} (h : Tab0 w g) (o : Obj) : Tab0 (w.alloc o) g := by
  obtain ⟨r, cs, h0, h1, h2, h3⟩ := h
  exact ⟨r, cs, h0, h1.alloc o, h2.alloc o, h3⟩
set_option maxHeartbeats 1000000 in
set_option maxRecDepth 100000 in
theorem newEnc_any (w : World) : Calls Tryz.prog 36 #[.int .i64 4096] w fun e w' => e = .returned (.tuple #[.pointer (some ⟨w.heap.size + 2, 0, none⟩), .nilIface]) ∧
    Blk w' (w.heap.size + 2) 135 #[.pointer (some ⟨w.heap.size + 1, 0, none⟩), .int .i64 0, .bool false] ∧ Tab0 w' (w.heap.size + 1) ∧ w'.heap.size = w.heap.size + 3 ∧ Below w.heap.size w w' := by
  go_enter Tryz.func36, Tryz.ntmps36
  go_wp2_with fail
  refine (tabNew_any w).mono ?_
  rintro e w1 ⟨rfl, ht, hz, hb⟩
  have HT := Lib.hid ht
  have HZ := Lib.hid hz
  have HB := Lib.hid hb
  clear ht hz hb
  go_wp2
  go_ret2
  have h := Blk.new w1 135 #[.pointer (some ⟨w.heap.size + 1, 0, none⟩), .int .i64 0, .bool false]
  rw [HZ.out] at h
  refine ⟨by rw [HZ.out]; rfl, h, HT.out.alloc _, by simp [HZ.out], HB.out.alloc HB.out.size _⟩
set_option maxHeartbeats 1000000 in
set_option maxRecDepth 100000 in
theorem newDec_any (w : World) : Calls Tryz.prog 37 #[.int .i64 4096] w fun e w' => e = .returned (.tuple #[.pointer (some ⟨w.heap.size + 2, 0, none⟩), .nilIface]) ∧
    Blk w' (w.heap.size + 2) 137 #[.pointer (some ⟨w.heap.size + 1, 0, none⟩), .int .i64 4096, .bool false] ∧ Tab0 w' (w.heap.size + 1) ∧ w'.heap.size = w.heap.size + 3 ∧ Below w.heap.size w w' := by
  go_enter Tryz.func37, Tryz.ntmps37
  go_wp2_with fail
  refine (tabNew_any w).mono ?_
  rintro e w1 ⟨rfl, ht, hz, hb⟩
  have HT := Lib.hid ht
  have HZ := Lib.hid hz
  have HB := Lib.hid hb
  clear ht hz hb
  go_wp2
  go_ret2
  have h := Blk.new w1 137 #[.pointer (some ⟨w.heap.size + 1, 0, none⟩), .int .i64 4096, .bool false]
  rw [HZ.out] at h
  refine ⟨by rw [HZ.out]; rfl, h, HT.out.alloc _, by simp [HZ.out], HB.out.alloc HB.out.size _⟩
end Go.Proofs.YtkpppjhbmnfmkaaGreatDoor
end

section
namespace Go.Proofs.YtkpppjhbmnfmkaaGreatDoor
open Go.RowKit Go.Own Go.Own.Fr
set_option maxHeartbeats 1000000 in
set_option maxRecDepth 100000 in
theorem winNew_any (n : Int) (W : World) (h0 : 0 ≤ n) (h1 : n ≤ 2147483647) : Calls Tryz.prog 64 #[.int .i64 n] W fun e w' => e = .returned (.tuple #[.pointer (some ⟨W.heap.size, 0, none⟩), .nilIface]) ∧ w' = W.alloc (.cells #[.int .i64 n] 177) := by
  have e0 : (n < 0) = False := by simp; omega
  have e1 : ((2147483647 : Int) < n) = False := by simp; omega
  clear h0 h1
  go_enter Tryz.func64, Tryz.ntmps64
  go_wp2
  go_ret2
  exact ⟨rfl, rfl⟩
set_option maxHeartbeats 1000000 in
set_option maxRecDepth 100000 in
theorem window_any (n : Int) (W : World) (h0 : 0 ≤ n) (h1 : n ≤ 2147483647) : Calls Tryz.prog 35 #[.int .i64 n] W fun e w' => e = .returned (.pointer (some ⟨W.heap.size, 0, none⟩)) ∧ w' = W.alloc (.cells #[.int .i64 n] 177) := by
  have HN := Lib.hid (winNew_any n W h0 h1)
  have hm : max n 0 = n := by omega
  clear h1
  go_enter Tryz.func35, Tryz.ntmps35
  go_wp2_with fail
  refine HN.out.mono ?_
  rintro e w1 ⟨rfl, hw⟩
  subst w1
  go_wp2
  go_ret
  exact ⟨rfl, rfl⟩
set_option maxHeartbeats 1000000 in
set_option maxRecDepth 100000 in
/-- Two windows that are not one. -/
theorem both_any (a b : Nat) (x y : Value) (W : World) (hne : a ≠ b) (ha : Blk W a 177 #[x]) (hb : Blk W b 177 #[y]) : Calls Tryz.prog 95 #[.pointer (some ⟨a, 0, none⟩), .pointer (some ⟨b, 0, none⟩)] W fun e w' => e = .returned (.pointer (some ⟨W.heap.size + 1, 0, none⟩)) ∧
    w' = (W.alloc (.cells #[.pointer (some ⟨a, 0, none⟩), .pointer (some ⟨b, 0, none⟩)] 75)).alloc (.cells #[.slice (some ⟨W.heap.size, 0, none⟩) 2 2] 206) := by
  obtain ⟨j, hj⟩ : ∃ j, Tryz.prog.info? 177 = some j := Option.isSome_iff_exists.1 (by kernel_rfl)
  have hsz : j.size ≠ 0 := by
    have h : (Tryz.prog.info? 177).map (·.size) = some 1 := by kernel_rfl
    rw [hj] at h
    have h1 : j.size = 1 := by simpa using h
    omega
  have hq := run_eql_ptr_other (P := Tryz.prog) (w := W) (a := ⟨a, 0, none⟩) (b := ⟨b, 0, none⟩) Tryz.underlying75 hj hsz (by intro e; injection e with e; exact hne e) ha hb
  go_enter Tryz.func95, Tryz.ntmps95
  go_wp2
  go_ret
  exact ⟨rfl, rfl⟩
end Go.Proofs.YtkpppjhbmnfmkaaGreatDoor
end

section
namespace Go.Proofs.YtkpppjhbmnfmkaaGreatDoor
open Go.RowKit Go.Own Go.Own.Fr
set_option maxHeartbeats 1000000 in
set_option maxRecDepth 100000 in
theorem preface_any (w : World) : Calls Tryz.prog 38 #[] w fun e w' => e = .returned (.slice (some ⟨w.heap.size, 0, none⟩) 24 24) ∧ Rd w' (w.heap.size + 1) (some ⟨w.heap.size, 0, none⟩) 24 prefB ∧ Below w.heap.size w w' := by
  have hcv := fun (w : World) (C : Array Value) (n c : Nat) => Lib.run_convert_bytes_const (P := Tryz.prog) w 22 5 C n c Tryz.underlying22 Tryz.underlying5
  go_enter Tryz.func38, Tryz.ntmps38
  go_wp2
  go_ret
  exact ⟨rfl, Rd.marks w _ prefB 5 _ rfl, (Below.refl _ _).alloc (Nat.le_refl _) _⟩
set_option maxHeartbeats 1000000 in
set_option maxRecDepth 100000 in
theorem prefaceR_any (w : World) : Calls Tryz.prog 41 #[] w fun e w' => e = .returned (.slice (some ⟨w.heap.size, 0, none⟩) 24 24) ∧ Rd w' (w.heap.size + 1) (some ⟨w.heap.size, 0, none⟩) 24 prefB ∧ Below w.heap.size w w' := by
  have hcv := fun (w : World) (C : Array Value) (n c : Nat) => Lib.run_convert_bytes_const (P := Tryz.prog) w 22 5 C n c Tryz.underlying22 Tryz.underlying5
  go_enter Tryz.func41, Tryz.ntmps41
  go_wp2
  go_ret
  exact ⟨rfl, Rd.marks w _ prefB 5 _ rfl, (Below.refl _ _).alloc (Nat.le_refl _) _⟩
end Go.Proofs.YtkpppjhbmnfmkaaGreatDoor
end
