/-
  Contracts: why a field's change hurts (the document's).
-/
import Derived.Test.YtcjcpkjdhagofaaKi
import Derived.Deep.RegionWith
import Derived.Deep.RegionHeld3
namespace Go.Proofs.Ytcjcpkjdhagofaa
open Go.RowKit Go.Own Go.Own.Cm Go.Shelf
attribute [local go_sem] Oper.semAt_some
def WhyPost (k : Int) (w : World) (e : Ending) (w' : World) : Prop := e = .returned (.int .i64 k) ∧ Below w.heap.size w w'
set_option maxHeartbeats 2000000 in
set_option maxRecDepth 100000 in
theorem wire_any (f g : FldV) (w : World) : Calls Try.prog 32 #[.agg f.cells, .agg g.cells] w (WhyPost (wireWhy f g) w) := by
  have HP : Hid (∀ b, wireWhy f g = b → ∀ w', Below w.heap.size w w' → WhyPost (wireWhy f g) w (.returned (.int .i64 b)) w') := Lib.hid (by rintro b rfl w' h; exact ⟨rfl, h⟩)
  have HL := Lib.hid (labelR_any f g)
  obtain ⟨z, hz⟩ : ∃ z, labelB f g = z := ⟨_, rfl⟩
  have HZ := Lib.hid hz
  rw [hz] at HL
  clear hz
  obtain ⟨n1, n2, n3, n4, a, b, c, p, q, r⟩ := f
  obtain ⟨m1, m2, m3, m4, a', b', c', p', q', r'⟩ := g
  have HA := Lib.hid (alikeB_any b b')
  have HB := Lib.hid (alikeB_any c c')
  obtain ⟨x, hx⟩ : ∃ x, alikeB b b' = x := ⟨_, rfl⟩
  obtain ⟨y, hy⟩ : ∃ y, alikeB c c' = y := ⟨_, rfl⟩
  have HX := Lib.hid hx
  have HY := Lib.hid hy
  rw [hx] at HA
  rw [hy] at HB
  clear hx hy
  simp only [FldV.cells] at HL ⊢
  have HW : ∃ w0, w0 = (w.alloc (.cells #[.string n1, .string n2, .string n3, .string n4, .int .i64 a, .int .i64 b, .int .i64 c, .bool p, .bool q, .bool r] 42)).alloc (.cells #[.string m1, .string m2, .string m3, .string m4, .int .i64 a', .int .i64 b', .int .i64 c', .bool p', .bool q', .bool r'] 42) ∧ Below w.heap.size w w0 ∧ w.heap.size + 2 ≤ w0.heap.size ∧
      Blk w0 w.heap.size 42 #[.string n1, .string n2, .string n3, .string n4, .int .i64 a, .int .i64 b, .int .i64 c, .bool p, .bool q, .bool r] ∧ Blk w0 (w.heap.size + 1) 42 #[.string m1, .string m2, .string m3, .string m4, .int .i64 a', .int .i64 b', .int .i64 c', .bool p', .bool q', .bool r'] :=
    ⟨_, rfl, ((Below.refl _ _).alloc (Nat.le_refl _) _).alloc (by simp) _, by simp, (Blk.new w _ _).alloc _, by simpa using Blk.new (w.alloc (.cells #[.string n1, .string n2, .string n3, .string n4, .int .i64 a, .int .i64 b, .int .i64 c, .bool p, .bool q, .bool r] 42)) 42 #[.string m1, .string m2, .string m3, .string m4, .int .i64 a', .int .i64 b', .int .i64 c', .bool p', .bool q', .bool r']⟩
  obtain ⟨w0, e0, W1, W2, W3, W4⟩ := HW
  have HB0 := Lib.hid W1
  have HS0 := Lib.hid W2
  have HF0 := Lib.hid W3
  have HG0 := Lib.hid W4
  have HE0 := Lib.hid e0
  clear W1 W2 W3 W4 e0
  by_cases hc : c = 0
  all_goals by_cases hc' : c' = 0
  all_goals try subst hc
  all_goals try subst hc'
  all_goals
    rcases z with _ | _ <;>
    go_enter Try.func32, Try.ntmps32
  all_goals
    go_wp2_with (first
      | (with_reducible refine (HA.out _).mono ?_
         rintro e w2 ⟨rfl, rfl⟩)
      | (with_reducible refine (HB.out _).mono ?_
         rintro e w2 ⟨rfl, rfl⟩)
      | (rw [← HE0.out]
         with_reducible refine (HL.out _).mono ?_
         rintro e w2 ⟨rfl, h2⟩
         have k5 := (HF0.out.below h2 HF0.out.lt).cell 5
         have j5 := (HG0.out.below h2 HG0.out.lt).cell 5
         have k2 := (HF0.out.below h2 HF0.out.lt).cell 2
         have j2 := (HG0.out.below h2 HG0.out.lt).cell 2
         have k3 := (HF0.out.below h2 HF0.out.lt).cell 3
         have j3 := (HG0.out.below h2 HG0.out.lt).cell 3
         have HN := Lib.hid (HB0.out.trans (h2.mono HB0.out.size))
         simp only [List.getElem?_toArray, List.getElem?_cons_zero, List.getElem?_cons_succ] at k5 j5 k2 j2 k3 j3
         clear h2))
  all_goals
    go_ret
    refine HP.out _ ?_ _ (by first | exact HN.out | (rw [HE0.out] at HB0; exact HB0.out) | exact ((Below.refl _ _).alloc (Nat.le_refl _) _).alloc (by simp) _)
    have HX := HX.out
    have HY := HY.out
    have HZ := HZ.out
    clear HP HL HA HB
    unfold wireWhy
    rw [HZ]
    unfold unlikeB refW oneB sameT
    simp_all
set_option maxHeartbeats 2000000 in
set_option maxRecDepth 100000 in
theorem json_any (f g : FldV) (w : World) : Calls Try.prog 33 #[.agg f.cells, .agg g.cells] w (WhyPost (jsonWhy f g) w) := by
  have HP : Hid (∀ b, jsonWhy f g = b → ∀ w', Below w.heap.size w w' → WhyPost (jsonWhy f g) w (.returned (.int .i64 b)) w') := Lib.hid (by rintro b rfl w' h; exact ⟨rfl, h⟩)
  have HL := Lib.hid (labelR_any f g)
  obtain ⟨z, hz⟩ : ∃ z, labelB f g = z := ⟨_, rfl⟩
  have HZ := Lib.hid hz
  rw [hz] at HL
  clear hz
  obtain ⟨n1, n2, n3, n4, a, b, c, p, q, r⟩ := f
  obtain ⟨m1, m2, m3, m4, a', b', c', p', q', r'⟩ := g
  have HA := Lib.hid (said_any b)
  have HA' := Lib.hid (said_any b')
  have HB := Lib.hid (said_any c)
  have HB' := Lib.hid (said_any c')
  obtain ⟨x, hx⟩ : ∃ x, saidK b = x := ⟨_, rfl⟩
  obtain ⟨x', hx'⟩ : ∃ x, saidK b' = x := ⟨_, rfl⟩
  obtain ⟨y, hy⟩ : ∃ y, saidK c = y := ⟨_, rfl⟩
  obtain ⟨y', hy'⟩ : ∃ y, saidK c' = y := ⟨_, rfl⟩
  have HX := Lib.hid hx
  have HY := Lib.hid hy
  have HX' := Lib.hid hx'
  have HY' := Lib.hid hy'
  rw [hx] at HA
  rw [hy] at HB
  rw [hx'] at HA'
  rw [hy'] at HB'
  clear hx hy hx' hy'
  simp only [FldV.cells] at HL ⊢
  have HW : ∃ w0, w0 = (w.alloc (.cells #[.string n1, .string n2, .string n3, .string n4, .int .i64 a, .int .i64 b, .int .i64 c, .bool p, .bool q, .bool r] 42)).alloc (.cells #[.string m1, .string m2, .string m3, .string m4, .int .i64 a', .int .i64 b', .int .i64 c', .bool p', .bool q', .bool r'] 42) ∧ Below w.heap.size w w0 ∧ w.heap.size + 2 ≤ w0.heap.size ∧
      Blk w0 w.heap.size 42 #[.string n1, .string n2, .string n3, .string n4, .int .i64 a, .int .i64 b, .int .i64 c, .bool p, .bool q, .bool r] ∧ Blk w0 (w.heap.size + 1) 42 #[.string m1, .string m2, .string m3, .string m4, .int .i64 a', .int .i64 b', .int .i64 c', .bool p', .bool q', .bool r'] :=
    ⟨_, rfl, ((Below.refl _ _).alloc (Nat.le_refl _) _).alloc (by simp) _, by simp, (Blk.new w _ _).alloc _, by simpa using Blk.new (w.alloc (.cells #[.string n1, .string n2, .string n3, .string n4, .int .i64 a, .int .i64 b, .int .i64 c, .bool p, .bool q, .bool r] 42)) 42 #[.string m1, .string m2, .string m3, .string m4, .int .i64 a', .int .i64 b', .int .i64 c', .bool p', .bool q', .bool r']⟩
  obtain ⟨w0, e0, W1, W2, W3, W4⟩ := HW
  have HB0 := Lib.hid W1
  have HS0 := Lib.hid W2
  have HF0 := Lib.hid W3
  have HG0 := Lib.hid W4
  have HE0 := Lib.hid e0
  clear W1 W2 W3 W4 e0
  have HC : Hid (∀ w', w' = w0 ∨ w' = w0.drew → (w'.cell? ⟨w.heap.size, 5, none⟩ = some (.int .i64 b) ∧ w'.cell? ⟨w.heap.size + 1, 5, none⟩ = some (.int .i64 b')) ∧ (w'.cell? ⟨w.heap.size, 6, none⟩ = some (.int .i64 c) ∧ w'.cell? ⟨w.heap.size + 1, 6, none⟩ = some (.int .i64 c'))) := Lib.hid (by
    intro w' hw'
    have e1 := HF0.out.cell 5
    have e2 := HG0.out.cell 5
    have e3 := HF0.out.cell 6
    have e4 := HG0.out.cell 6
    rcases hw' with rfl | rfl
    · exact ⟨⟨e1, e2⟩, ⟨e3, e4⟩⟩
    · exact ⟨⟨e1, e2⟩, ⟨e3, e4⟩⟩)
  have hcases : x ≠ x' ∨ (x = x' ∧ c = 0) ∨ (x = x' ∧ c ≠ 0 ∧ c' = 0) ∨ (x = x' ∧ c ≠ 0 ∧ c' ≠ 0) := by
    by_cases h1 : x = x'
    · by_cases h2 : c = 0
      · exact .inr (.inl ⟨h1, h2⟩)
      · by_cases h3 : c' = 0
        · exact .inr (.inr (.inl ⟨h1, h2, h3⟩))
        · exact .inr (.inr (.inr ⟨h1, h2, h3⟩))
    · exact .inl h1
  rcases hcases with hxx | ⟨rfl, rfl⟩ | ⟨rfl, hc, rfl⟩ | ⟨rfl, hc, hc'⟩
  · go_enter Try.func33, Try.ntmps33
    go_wp2_with fail
    rw [← HE0.out]
    refine wp_region_noPanic ?_
    refine wp_region_held_drew (S := (fun w' => (w'.cell? ⟨w.heap.size, 5, none⟩ = some (.int .i64 b) ∧ w'.cell? ⟨w.heap.size + 1, 5, none⟩ = some (.int .i64 b')) ∧ (w'.cell? ⟨w.heap.size, 6, none⟩ = some (.int .i64 c) ∧ w'.cell? ⟨w.heap.size + 1, 6, none⟩ = some (.int .i64 c')))) (by kernel_rfl) (HC.out _ (.inr rfl)) (fun hHeld => ?_)
    refine wpAnyH_take (i := 0) (oi := { dst := some 6, op := Op.fieldAddr 42 (Operand.tmp 2) 5, type := 0, pos := "compat.go:98", after := #[], guard := none }) (v := ?_) rfl (by kernel_rfl) (by kernel_rfl) (by kernel_rfl) (fun _ _ _ h => h) (Or.inl ⟨by rfl, ?_⟩) hHeld ?_
    rotate_left
    · intro w hSw; (try dsimp only at hSw); (try go_split_ands); go_simp; (first | done | with_reducible rfl)
    (try simp only [Act.put, List.setIfInBounds_toArray, List.set_cons_zero, List.set_cons_succ])
    refine wpAnyH_take (i := 1) (oi := { dst := some 7, op := Op.load 3 (Operand.tmp 6), type := 3, pos := "compat.go:98", after := #[{ on := 0, ground := Ground.data }], guard := none }) (v := ?_) rfl (by kernel_rfl) (by kernel_rfl) (by kernel_rfl) (fun _ _ _ h => h) (Or.inl ⟨by rfl, ?_⟩) hHeld ?_
    rotate_left
    · intro w hSw; (try dsimp only at hSw); (try go_split_ands); go_simp; (first | done | with_reducible rfl)
    (try simp only [Act.put, List.setIfInBounds_toArray, List.set_cons_zero, List.set_cons_succ])
    refine wpAnyH_take (i := 3) (oi := { dst := some 9, op := Op.fieldAddr 42 (Operand.tmp 3) 5, type := 0, pos := "compat.go:98", after := #[], guard := none }) (v := ?_) rfl (by kernel_rfl) (by kernel_rfl) (by kernel_rfl) (fun _ _ _ h => h) (Or.inl ⟨by rfl, ?_⟩) hHeld ?_
    rotate_left
    · intro w hSw; (try dsimp only at hSw); (try go_split_ands); go_simp; (first | done | with_reducible rfl)
    (try simp only [Act.put, List.setIfInBounds_toArray, List.set_cons_zero, List.set_cons_succ])
    refine wpAnyH_take (i := 4) (oi := { dst := some 10, op := Op.load 3 (Operand.tmp 9), type := 3, pos := "compat.go:98", after := #[{ on := 3, ground := Ground.data }], guard := none }) (v := ?_) rfl (by kernel_rfl) (by kernel_rfl) (by kernel_rfl) (fun _ _ _ h => h) (Or.inl ⟨by rfl, ?_⟩) hHeld ?_
    rotate_left
    · intro w hSw; (try dsimp only at hSw); (try go_split_ands); go_simp; (first | done | with_reducible rfl)
    (try simp only [Act.put, List.setIfInBounds_toArray, List.set_cons_zero, List.set_cons_succ])
    refine wpAnyH_ready (rs := [2]) (by kernel_rfl) (by simp) ?_
    refine AllReadyH.cons (o := { dst := some 8, op := Op.call { callee := Callee.value (Operand.func 45), args := #[Operand.tmp 7], argTypes := #[3] }, type := 3, pos := "compat.go:98", after := #[{ on := 1, ground := Ground.data }], guard := none }) rfl (fun K hK => ?_) AllReadyH.nil
    go_simp
    with_reducible refine (HA.out _).mono ?_
    rintro e w2 ⟨rfl, rfl⟩
    go_simp
    refine hK.out _ _ hHeld (fun hHeld2 => ?_)
    clear hHeld
    have hHeld := hHeld2
    clear hHeld2 hK K
    (try simp only [Act.put, List.setIfInBounds_toArray, List.set_cons_zero, List.set_cons_succ])
    refine wpAnyH_ready (rs := [5]) (by kernel_rfl) (by simp) ?_
    refine AllReadyH.cons (o := { dst := some 11, op := Op.call { callee := Callee.value (Operand.func 45), args := #[Operand.tmp 10], argTypes := #[3] }, type := 3, pos := "compat.go:98", after := #[{ on := 4, ground := Ground.data }, { on := 2, ground := Ground.chain }], guard := none }) rfl (fun K hK => ?_) AllReadyH.nil
    go_simp
    with_reducible refine (HA'.out _).mono ?_
    rintro e w2 ⟨rfl, rfl⟩
    go_simp
    refine hK.out _ _ hHeld (fun hHeld2 => ?_)
    clear hHeld
    have hHeld := hHeld2
    clear hHeld2 hK K
    (try simp only [Act.put, List.setIfInBounds_toArray, List.set_cons_zero, List.set_cons_succ])
    refine wpAnyH_take (i := 6) (oi := { dst := some 12, op := Op.binOp BinOp.neq 3 (Operand.tmp 8) (Operand.tmp 11) 3, type := 4, pos := "compat.go:98", after := #[{ on := 2, ground := Ground.data }, { on := 5, ground := Ground.data }], guard := none }) (v := .bool true) rfl (by kernel_rfl) (by kernel_rfl) (by kernel_rfl) (fun _ _ _ h => h) (Or.inl ⟨by rfl, ?_⟩) hHeld ?_
    · intro w hSw; (try dsimp only at hSw); (try go_split_ands); go_simp; (first | done | with_reducible rfl | simp [hxx])
    (try simp only [Act.put, List.setIfInBounds_toArray, List.set_cons_zero, List.set_cons_succ])
    refine wpAnyH_take (i := 7) (oi := { dst := some 13, op := Op.move (Operand.tmp 12), type := 4, pos := "compat.go:98", after := #[{ on := 6, ground := Ground.data }, { on := 5, ground := Ground.chain }], guard := none }) (v := ?_) rfl (by kernel_rfl) (by kernel_rfl) (by kernel_rfl) (fun _ _ _ h => h) (Or.inl ⟨by rfl, ?_⟩) hHeld ?_
    rotate_left
    · intro w hSw; (try dsimp only at hSw); (try go_split_ands); go_simp; (first | done | with_reducible rfl)
    (try simp only [Act.put, List.setIfInBounds_toArray, List.set_cons_zero, List.set_cons_succ])
    refine wpAnyH_take (i := 8) (oi := { dst := some 14, op := Op.fieldAddr 42 (Operand.tmp 2) 6, type := 0, pos := "compat.go:98", after := #[{ on := 7, ground := Ground.guard }], guard := some (7, false) }) (v := undef) rfl (by kernel_rfl) (by kernel_rfl) (by kernel_rfl) (fun _ _ _ h => h) (Or.inr ⟨by rfl, rfl⟩) hHeld ?_
    (try simp only [Act.put, List.setIfInBounds_toArray, List.set_cons_zero, List.set_cons_succ])
    refine wpAnyH_take (i := 9) (oi := { dst := some 15, op := Op.load 3 (Operand.tmp 14), type := 3, pos := "compat.go:98", after := #[{ on := 8, ground := Ground.data }, { on := 7, ground := Ground.guard }], guard := some (7, false) }) (v := undef) rfl (by kernel_rfl) (by kernel_rfl) (by kernel_rfl) (fun _ _ _ h => h) (Or.inr ⟨by rfl, rfl⟩) hHeld ?_
    (try simp only [Act.put, List.setIfInBounds_toArray, List.set_cons_zero, List.set_cons_succ])
    refine wpAnyH_take (i := 10) (oi := { dst := some 16, op := Op.binOp BinOp.neq 3 (Operand.tmp 15) (Operand.const (Value.int IntKind.i64 0)) 3, type := 4, pos := "compat.go:98", after := #[{ on := 9, ground := Ground.data }, { on := 7, ground := Ground.guard }], guard := some (7, false) }) (v := undef) rfl (by kernel_rfl) (by kernel_rfl) (by kernel_rfl) (fun _ _ _ h => h) (Or.inr ⟨by rfl, rfl⟩) hHeld ?_
    (try simp only [Act.put, List.setIfInBounds_toArray, List.set_cons_zero, List.set_cons_succ])
    refine wpAnyH_take (i := 11) (oi := { dst := some 17, op := Op.move (Operand.tmp 16), type := 4, pos := "compat.go:98", after := #[{ on := 10, ground := Ground.data }, { on := 7, ground := Ground.chain }, { on := 7, ground := Ground.guard }], guard := some (7, false) }) (v := undef) rfl (by kernel_rfl) (by kernel_rfl) (by kernel_rfl) (fun _ _ _ h => h) (Or.inr ⟨by rfl, rfl⟩) hHeld ?_
    (try simp only [Act.put, List.setIfInBounds_toArray, List.set_cons_zero, List.set_cons_succ])
    refine wpAnyH_take (i := 12) (oi := { dst := some 18, op := Op.fieldAddr 42 (Operand.tmp 3) 6, type := 0, pos := "compat.go:98", after := #[{ on := 11, ground := Ground.guard }], guard := some (11, true) }) (v := undef) rfl (by kernel_rfl) (by kernel_rfl) (by kernel_rfl) (fun _ _ _ h => h) (Or.inr ⟨by rfl, rfl⟩) hHeld ?_
    (try simp only [Act.put, List.setIfInBounds_toArray, List.set_cons_zero, List.set_cons_succ])
    refine wpAnyH_take (i := 13) (oi := { dst := some 19, op := Op.load 3 (Operand.tmp 18), type := 3, pos := "compat.go:98", after := #[{ on := 12, ground := Ground.data }, { on := 11, ground := Ground.guard }], guard := some (11, true) }) (v := undef) rfl (by kernel_rfl) (by kernel_rfl) (by kernel_rfl) (fun _ _ _ h => h) (Or.inr ⟨by rfl, rfl⟩) hHeld ?_
    (try simp only [Act.put, List.setIfInBounds_toArray, List.set_cons_zero, List.set_cons_succ])
    refine wpAnyH_take (i := 14) (oi := { dst := some 20, op := Op.binOp BinOp.neq 3 (Operand.tmp 19) (Operand.const (Value.int IntKind.i64 0)) 3, type := 4, pos := "compat.go:98", after := #[{ on := 13, ground := Ground.data }, { on := 11, ground := Ground.guard }], guard := some (11, true) }) (v := undef) rfl (by kernel_rfl) (by kernel_rfl) (by kernel_rfl) (fun _ _ _ h => h) (Or.inr ⟨by rfl, rfl⟩) hHeld ?_
    (try simp only [Act.put, List.setIfInBounds_toArray, List.set_cons_zero, List.set_cons_succ])
    refine wpAnyH_take (i := 15) (oi := { dst := some 21, op := Op.pick (Operand.tmp 17) (Operand.tmp 20) (Operand.const (Value.bool false)), type := 4, pos := "compat.go:98", after := #[{ on := 11, ground := Ground.data }, { on := 14, ground := Ground.data }, { on := 7, ground := Ground.guard }], guard := some (7, false) }) (v := undef) rfl (by kernel_rfl) (by kernel_rfl) (by kernel_rfl) (fun _ _ _ h => h) (Or.inr ⟨by rfl, rfl⟩) hHeld ?_
    (try simp only [Act.put, List.setIfInBounds_toArray, List.set_cons_zero, List.set_cons_succ])
    refine wpAnyH_take (i := 16) (oi := { dst := some 22, op := Op.move (Operand.tmp 21), type := 4, pos := "compat.go:98", after := #[{ on := 15, ground := Ground.data }, { on := 11, ground := Ground.chain }, { on := 7, ground := Ground.guard }], guard := some (7, false) }) (v := undef) rfl (by kernel_rfl) (by kernel_rfl) (by kernel_rfl) (fun _ _ _ h => h) (Or.inr ⟨by rfl, rfl⟩) hHeld ?_
    (try simp only [Act.put, List.setIfInBounds_toArray, List.set_cons_zero, List.set_cons_succ])
    refine wpAnyH_take (i := 17) (oi := { dst := some 23, op := Op.fieldAddr 42 (Operand.tmp 2) 6, type := 0, pos := "compat.go:98", after := #[{ on := 16, ground := Ground.guard }], guard := some (16, true) }) (v := undef) rfl (by kernel_rfl) (by kernel_rfl) (by kernel_rfl) (fun _ _ _ h => h) (Or.inr ⟨by rfl, rfl⟩) hHeld ?_
    (try simp only [Act.put, List.setIfInBounds_toArray, List.set_cons_zero, List.set_cons_succ])
    refine wpAnyH_take (i := 18) (oi := { dst := some 24, op := Op.load 3 (Operand.tmp 23), type := 3, pos := "compat.go:98", after := #[{ on := 17, ground := Ground.data }, { on := 16, ground := Ground.guard }], guard := some (16, true) }) (v := undef) rfl (by kernel_rfl) (by kernel_rfl) (by kernel_rfl) (fun _ _ _ h => h) (Or.inr ⟨by rfl, rfl⟩) hHeld ?_
    (try simp only [Act.put, List.setIfInBounds_toArray, List.set_cons_zero, List.set_cons_succ])
    refine wpAnyH_take (i := 19) (oi := { dst := some 25, op := Op.call { callee := Callee.value (Operand.func 45), args := #[Operand.tmp 24], argTypes := #[3] }, type := 3, pos := "compat.go:98", after := #[{ on := 18, ground := Ground.data }, { on := 16, ground := Ground.chain }, { on := 16, ground := Ground.guard }], guard := some (16, true) }) (v := undef) rfl (by kernel_rfl) (by kernel_rfl) (by kernel_rfl) (fun _ _ _ h => h) (Or.inr ⟨by rfl, rfl⟩) hHeld ?_
    (try simp only [Act.put, List.setIfInBounds_toArray, List.set_cons_zero, List.set_cons_succ])
    refine wpAnyH_take (i := 20) (oi := { dst := some 26, op := Op.fieldAddr 42 (Operand.tmp 3) 6, type := 0, pos := "compat.go:98", after := #[{ on := 16, ground := Ground.guard }], guard := some (16, true) }) (v := undef) rfl (by kernel_rfl) (by kernel_rfl) (by kernel_rfl) (fun _ _ _ h => h) (Or.inr ⟨by rfl, rfl⟩) hHeld ?_
    (try simp only [Act.put, List.setIfInBounds_toArray, List.set_cons_zero, List.set_cons_succ])
    refine wpAnyH_take (i := 21) (oi := { dst := some 27, op := Op.load 3 (Operand.tmp 26), type := 3, pos := "compat.go:98", after := #[{ on := 20, ground := Ground.data }, { on := 16, ground := Ground.guard }], guard := some (16, true) }) (v := undef) rfl (by kernel_rfl) (by kernel_rfl) (by kernel_rfl) (fun _ _ _ h => h) (Or.inr ⟨by rfl, rfl⟩) hHeld ?_
    (try simp only [Act.put, List.setIfInBounds_toArray, List.set_cons_zero, List.set_cons_succ])
    refine wpAnyH_take (i := 22) (oi := { dst := some 28, op := Op.call { callee := Callee.value (Operand.func 45), args := #[Operand.tmp 27], argTypes := #[3] }, type := 3, pos := "compat.go:98", after := #[{ on := 21, ground := Ground.data }, { on := 19, ground := Ground.chain }, { on := 16, ground := Ground.guard }], guard := some (16, true) }) (v := undef) rfl (by kernel_rfl) (by kernel_rfl) (by kernel_rfl) (fun _ _ _ h => h) (Or.inr ⟨by rfl, rfl⟩) hHeld ?_
    (try simp only [Act.put, List.setIfInBounds_toArray, List.set_cons_zero, List.set_cons_succ])
    refine wpAnyH_take (i := 23) (oi := { dst := some 29, op := Op.binOp BinOp.neq 3 (Operand.tmp 25) (Operand.tmp 28) 3, type := 4, pos := "compat.go:98", after := #[{ on := 19, ground := Ground.data }, { on := 22, ground := Ground.data }, { on := 16, ground := Ground.guard }], guard := some (16, true) }) (v := undef) rfl (by kernel_rfl) (by kernel_rfl) (by kernel_rfl) (fun _ _ _ h => h) (Or.inr ⟨by rfl, rfl⟩) hHeld ?_
    (try simp only [Act.put, List.setIfInBounds_toArray, List.set_cons_zero, List.set_cons_succ])
    refine wpAnyH_take (i := 24) (oi := { dst := some 30, op := Op.pick (Operand.tmp 22) (Operand.tmp 29) (Operand.const (Value.bool false)), type := 4, pos := "compat.go:98", after := #[{ on := 16, ground := Ground.data }, { on := 23, ground := Ground.data }, { on := 7, ground := Ground.guard }], guard := some (7, false) }) (v := undef) rfl (by kernel_rfl) (by kernel_rfl) (by kernel_rfl) (fun _ _ _ h => h) (Or.inr ⟨by rfl, rfl⟩) hHeld ?_
    (try simp only [Act.put, List.setIfInBounds_toArray, List.set_cons_zero, List.set_cons_succ])
    refine wpAnyH_take (i := 25) (oi := { dst := some 31, op := Op.pick (Operand.tmp 13) (Operand.const (Value.bool true)) (Operand.tmp 30), type := 4, pos := "compat.go:98", after := #[{ on := 7, ground := Ground.data }, { on := 24, ground := Ground.data }], guard := none }) (v := ?_) rfl (by kernel_rfl) (by kernel_rfl) (by kernel_rfl) (fun _ _ _ h => h) (Or.inl ⟨by rfl, ?_⟩) hHeld ?_
    rotate_left
    · intro w hSw; (try dsimp only at hSw); (try go_split_ands); go_simp; (first | done | with_reducible rfl)
    (try simp only [Act.put, List.setIfInBounds_toArray, List.set_cons_zero, List.set_cons_succ])
    refine wpAnyH_take (i := 26) (oi := { dst := some 5, op := Op.assign (Operand.tmp 31), type := 4, pos := "compat.go:98", after := #[{ on := 25, ground := Ground.data }, { on := 22, ground := Ground.chain }], guard := none }) (v := ?_) rfl (by kernel_rfl) (by kernel_rfl) (by kernel_rfl) (fun _ _ _ h => h) (Or.inl ⟨by rfl, ?_⟩) hHeld ?_
    rotate_left
    · intro w hSw; (try dsimp only at hSw); (try go_split_ands); go_simp; (first | done | with_reducible rfl)
    (try simp only [Act.put, List.setIfInBounds_toArray, List.set_cons_zero, List.set_cons_succ])
    refine wpAnyH_done (by kernel_rfl) ?_ _
    refine NoPanic.normal ?_
    have HB1 : Hid (∀ w2, Below w0.drew.heap.size w0.drew w2 → Below w.heap.size w w2) := Lib.hid fun w2 h2 => (HB0.out.drew).trans (h2.mono HB0.out.size)
    rw [HE0.out]
    rcases z with _ | _
    all_goals
      go_wp2_with (first
        | (rw [← HE0.out]
           with_reducible refine (HL.out _).mono ?_
           rintro e w2 ⟨rfl, h2⟩
           have HF1 : Blk w0.drew w.heap.size _ _ := HF0.out
           have HG1 : Blk w0.drew (w.heap.size + 1) _ _ := HG0.out
           have k5 := (HF1.below h2 HF1.lt).cell 5
           have j5 := (HG1.below h2 HG1.lt).cell 5
           have k2 := (HF1.below h2 HF1.lt).cell 2
           have j2 := (HG1.below h2 HG1.lt).cell 2
           have k1 := (HF1.below h2 HF1.lt).cell 1
           have j1 := (HG1.below h2 HG1.lt).cell 1
           have k3 := (HF1.below h2 HF1.lt).cell 3
           have j3 := (HG1.below h2 HG1.lt).cell 3
           have HN := Lib.hid (HB1.out _ h2)
           simp only [List.getElem?_toArray, List.getElem?_cons_zero, List.getElem?_cons_succ] at k5 j5 k2 j2 k3 j3 k1 j1
           clear h2 HF1 HG1))
    all_goals
      go_ret
      refine HP.out _ ?_ _ (by first | exact HN.out | (rw [← HE0.out]; exact HB1.out _ (Below.refl _ _)))
      have HX := HX.out
      have HY := HY.out
      have HX' := HX'.out
      have HY' := HY'.out
      have HZ := HZ.out
      clear HP HL HA HB HA' HB'
      unfold jsonWhy
      rw [HZ]
      unfold unlikeB refJ oneB nameB sameT
      simp_all
  · go_enter Try.func33, Try.ntmps33
    go_wp2_with fail
    rw [← HE0.out]
    refine wp_region_noPanic ?_
    refine wp_region_held_drew (S := (fun w' => (w'.cell? ⟨w.heap.size, 5, none⟩ = some (.int .i64 b) ∧ w'.cell? ⟨w.heap.size + 1, 5, none⟩ = some (.int .i64 b')) ∧ (w'.cell? ⟨w.heap.size, 6, none⟩ = some (.int .i64 0) ∧ w'.cell? ⟨w.heap.size + 1, 6, none⟩ = some (.int .i64 c')))) (by kernel_rfl) (HC.out _ (.inr rfl)) (fun hHeld => ?_)
    refine wpAnyH_take (i := 0) (oi := { dst := some 6, op := Op.fieldAddr 42 (Operand.tmp 2) 5, type := 0, pos := "compat.go:98", after := #[], guard := none }) (v := ?_) rfl (by kernel_rfl) (by kernel_rfl) (by kernel_rfl) (fun _ _ _ h => h) (Or.inl ⟨by rfl, ?_⟩) hHeld ?_
    rotate_left
    · intro w hSw; (try dsimp only at hSw); (try go_split_ands); go_simp; (first | done | with_reducible rfl)
    (try simp only [Act.put, List.setIfInBounds_toArray, List.set_cons_zero, List.set_cons_succ])
    refine wpAnyH_take (i := 1) (oi := { dst := some 7, op := Op.load 3 (Operand.tmp 6), type := 3, pos := "compat.go:98", after := #[{ on := 0, ground := Ground.data }], guard := none }) (v := ?_) rfl (by kernel_rfl) (by kernel_rfl) (by kernel_rfl) (fun _ _ _ h => h) (Or.inl ⟨by rfl, ?_⟩) hHeld ?_
    rotate_left
    · intro w hSw; (try dsimp only at hSw); (try go_split_ands); go_simp; (first | done | with_reducible rfl)
    (try simp only [Act.put, List.setIfInBounds_toArray, List.set_cons_zero, List.set_cons_succ])
    refine wpAnyH_take (i := 3) (oi := { dst := some 9, op := Op.fieldAddr 42 (Operand.tmp 3) 5, type := 0, pos := "compat.go:98", after := #[], guard := none }) (v := ?_) rfl (by kernel_rfl) (by kernel_rfl) (by kernel_rfl) (fun _ _ _ h => h) (Or.inl ⟨by rfl, ?_⟩) hHeld ?_
    rotate_left
    · intro w hSw; (try dsimp only at hSw); (try go_split_ands); go_simp; (first | done | with_reducible rfl)
    (try simp only [Act.put, List.setIfInBounds_toArray, List.set_cons_zero, List.set_cons_succ])
    refine wpAnyH_take (i := 4) (oi := { dst := some 10, op := Op.load 3 (Operand.tmp 9), type := 3, pos := "compat.go:98", after := #[{ on := 3, ground := Ground.data }], guard := none }) (v := ?_) rfl (by kernel_rfl) (by kernel_rfl) (by kernel_rfl) (fun _ _ _ h => h) (Or.inl ⟨by rfl, ?_⟩) hHeld ?_
    rotate_left
    · intro w hSw; (try dsimp only at hSw); (try go_split_ands); go_simp; (first | done | with_reducible rfl)
    (try simp only [Act.put, List.setIfInBounds_toArray, List.set_cons_zero, List.set_cons_succ])
    refine wpAnyH_ready (rs := [2]) (by kernel_rfl) (by simp) ?_
    refine AllReadyH.cons (o := { dst := some 8, op := Op.call { callee := Callee.value (Operand.func 45), args := #[Operand.tmp 7], argTypes := #[3] }, type := 3, pos := "compat.go:98", after := #[{ on := 1, ground := Ground.data }], guard := none }) rfl (fun K hK => ?_) AllReadyH.nil
    go_simp
    with_reducible refine (HA.out _).mono ?_
    rintro e w2 ⟨rfl, rfl⟩
    go_simp
    refine hK.out _ _ hHeld (fun hHeld2 => ?_)
    clear hHeld
    have hHeld := hHeld2
    clear hHeld2 hK K
    (try simp only [Act.put, List.setIfInBounds_toArray, List.set_cons_zero, List.set_cons_succ])
    refine wpAnyH_ready (rs := [5]) (by kernel_rfl) (by simp) ?_
    refine AllReadyH.cons (o := { dst := some 11, op := Op.call { callee := Callee.value (Operand.func 45), args := #[Operand.tmp 10], argTypes := #[3] }, type := 3, pos := "compat.go:98", after := #[{ on := 4, ground := Ground.data }, { on := 2, ground := Ground.chain }], guard := none }) rfl (fun K hK => ?_) AllReadyH.nil
    go_simp
    with_reducible refine (HA'.out _).mono ?_
    rintro e w2 ⟨rfl, rfl⟩
    go_simp
    refine hK.out _ _ hHeld (fun hHeld2 => ?_)
    clear hHeld
    have hHeld := hHeld2
    clear hHeld2 hK K
    (try simp only [Act.put, List.setIfInBounds_toArray, List.set_cons_zero, List.set_cons_succ])
    refine wpAnyH_take (i := 6) (oi := { dst := some 12, op := Op.binOp BinOp.neq 3 (Operand.tmp 8) (Operand.tmp 11) 3, type := 4, pos := "compat.go:98", after := #[{ on := 2, ground := Ground.data }, { on := 5, ground := Ground.data }], guard := none }) (v := .bool false) rfl (by kernel_rfl) (by kernel_rfl) (by kernel_rfl) (fun _ _ _ h => h) (Or.inl ⟨by rfl, ?_⟩) hHeld ?_
    · intro w hSw; (try dsimp only at hSw); (try go_split_ands); go_simp; (first | done | with_reducible rfl | simp)
    (try simp only [Act.put, List.setIfInBounds_toArray, List.set_cons_zero, List.set_cons_succ])
    refine wpAnyH_take (i := 7) (oi := { dst := some 13, op := Op.move (Operand.tmp 12), type := 4, pos := "compat.go:98", after := #[{ on := 6, ground := Ground.data }, { on := 5, ground := Ground.chain }], guard := none }) (v := ?_) rfl (by kernel_rfl) (by kernel_rfl) (by kernel_rfl) (fun _ _ _ h => h) (Or.inl ⟨by rfl, ?_⟩) hHeld ?_
    rotate_left
    · intro w hSw; (try dsimp only at hSw); (try go_split_ands); go_simp; (first | done | with_reducible rfl)
    (try simp only [Act.put, List.setIfInBounds_toArray, List.set_cons_zero, List.set_cons_succ])
    refine wpAnyH_take (i := 8) (oi := { dst := some 14, op := Op.fieldAddr 42 (Operand.tmp 2) 6, type := 0, pos := "compat.go:98", after := #[{ on := 7, ground := Ground.guard }], guard := some (7, false) }) (v := ?_) rfl (by kernel_rfl) (by kernel_rfl) (by kernel_rfl) (fun _ _ _ h => h) (Or.inl ⟨by rfl, ?_⟩) hHeld ?_
    rotate_left
    · intro w hSw; (try dsimp only at hSw); (try go_split_ands); go_simp; (first | done | with_reducible rfl)
    (try simp only [Act.put, List.setIfInBounds_toArray, List.set_cons_zero, List.set_cons_succ])
    refine wpAnyH_take (i := 9) (oi := { dst := some 15, op := Op.load 3 (Operand.tmp 14), type := 3, pos := "compat.go:98", after := #[{ on := 8, ground := Ground.data }, { on := 7, ground := Ground.guard }], guard := some (7, false) }) (v := ?_) rfl (by kernel_rfl) (by kernel_rfl) (by kernel_rfl) (fun _ _ _ h => h) (Or.inl ⟨by rfl, ?_⟩) hHeld ?_
    rotate_left
    · intro w hSw; (try dsimp only at hSw); (try go_split_ands); go_simp; (first | done | with_reducible rfl)
    (try simp only [Act.put, List.setIfInBounds_toArray, List.set_cons_zero, List.set_cons_succ])
    refine wpAnyH_take (i := 10) (oi := { dst := some 16, op := Op.binOp BinOp.neq 3 (Operand.tmp 15) (Operand.const (Value.int IntKind.i64 0)) 3, type := 4, pos := "compat.go:98", after := #[{ on := 9, ground := Ground.data }, { on := 7, ground := Ground.guard }], guard := some (7, false) }) (v := .bool false) rfl (by kernel_rfl) (by kernel_rfl) (by kernel_rfl) (fun _ _ _ h => h) (Or.inl ⟨by rfl, ?_⟩) hHeld ?_
    · intro w hSw; (try dsimp only at hSw); (try go_split_ands); go_simp; (first | done | with_reducible rfl | simp)
    (try simp only [Act.put, List.setIfInBounds_toArray, List.set_cons_zero, List.set_cons_succ])
    refine wpAnyH_take (i := 11) (oi := { dst := some 17, op := Op.move (Operand.tmp 16), type := 4, pos := "compat.go:98", after := #[{ on := 10, ground := Ground.data }, { on := 7, ground := Ground.chain }, { on := 7, ground := Ground.guard }], guard := some (7, false) }) (v := ?_) rfl (by kernel_rfl) (by kernel_rfl) (by kernel_rfl) (fun _ _ _ h => h) (Or.inl ⟨by rfl, ?_⟩) hHeld ?_
    rotate_left
    · intro w hSw; (try dsimp only at hSw); (try go_split_ands); go_simp; (first | done | with_reducible rfl)
    (try simp only [Act.put, List.setIfInBounds_toArray, List.set_cons_zero, List.set_cons_succ])
    refine wpAnyH_take (i := 12) (oi := { dst := some 18, op := Op.fieldAddr 42 (Operand.tmp 3) 6, type := 0, pos := "compat.go:98", after := #[{ on := 11, ground := Ground.guard }], guard := some (11, true) }) (v := undef) rfl (by kernel_rfl) (by kernel_rfl) (by kernel_rfl) (fun _ _ _ h => h) (Or.inr ⟨by rfl, rfl⟩) hHeld ?_
    (try simp only [Act.put, List.setIfInBounds_toArray, List.set_cons_zero, List.set_cons_succ])
    refine wpAnyH_take (i := 13) (oi := { dst := some 19, op := Op.load 3 (Operand.tmp 18), type := 3, pos := "compat.go:98", after := #[{ on := 12, ground := Ground.data }, { on := 11, ground := Ground.guard }], guard := some (11, true) }) (v := undef) rfl (by kernel_rfl) (by kernel_rfl) (by kernel_rfl) (fun _ _ _ h => h) (Or.inr ⟨by rfl, rfl⟩) hHeld ?_
    (try simp only [Act.put, List.setIfInBounds_toArray, List.set_cons_zero, List.set_cons_succ])
    refine wpAnyH_take (i := 14) (oi := { dst := some 20, op := Op.binOp BinOp.neq 3 (Operand.tmp 19) (Operand.const (Value.int IntKind.i64 0)) 3, type := 4, pos := "compat.go:98", after := #[{ on := 13, ground := Ground.data }, { on := 11, ground := Ground.guard }], guard := some (11, true) }) (v := undef) rfl (by kernel_rfl) (by kernel_rfl) (by kernel_rfl) (fun _ _ _ h => h) (Or.inr ⟨by rfl, rfl⟩) hHeld ?_
    (try simp only [Act.put, List.setIfInBounds_toArray, List.set_cons_zero, List.set_cons_succ])
    refine wpAnyH_take (i := 15) (oi := { dst := some 21, op := Op.pick (Operand.tmp 17) (Operand.tmp 20) (Operand.const (Value.bool false)), type := 4, pos := "compat.go:98", after := #[{ on := 11, ground := Ground.data }, { on := 14, ground := Ground.data }, { on := 7, ground := Ground.guard }], guard := some (7, false) }) (v := .bool false) rfl (by kernel_rfl) (by kernel_rfl) (by kernel_rfl) (fun _ _ _ h => h) (Or.inl ⟨by rfl, ?_⟩) hHeld ?_
    · intro w hSw; (try dsimp only at hSw); (try go_split_ands); go_simp; (first | done | with_reducible rfl | simp)
    (try simp only [Act.put, List.setIfInBounds_toArray, List.set_cons_zero, List.set_cons_succ])
    refine wpAnyH_take (i := 16) (oi := { dst := some 22, op := Op.move (Operand.tmp 21), type := 4, pos := "compat.go:98", after := #[{ on := 15, ground := Ground.data }, { on := 11, ground := Ground.chain }, { on := 7, ground := Ground.guard }], guard := some (7, false) }) (v := ?_) rfl (by kernel_rfl) (by kernel_rfl) (by kernel_rfl) (fun _ _ _ h => h) (Or.inl ⟨by rfl, ?_⟩) hHeld ?_
    rotate_left
    · intro w hSw; (try dsimp only at hSw); (try go_split_ands); go_simp; (first | done | with_reducible rfl)
    (try simp only [Act.put, List.setIfInBounds_toArray, List.set_cons_zero, List.set_cons_succ])
    refine wpAnyH_take (i := 17) (oi := { dst := some 23, op := Op.fieldAddr 42 (Operand.tmp 2) 6, type := 0, pos := "compat.go:98", after := #[{ on := 16, ground := Ground.guard }], guard := some (16, true) }) (v := undef) rfl (by kernel_rfl) (by kernel_rfl) (by kernel_rfl) (fun _ _ _ h => h) (Or.inr ⟨by rfl, rfl⟩) hHeld ?_
    (try simp only [Act.put, List.setIfInBounds_toArray, List.set_cons_zero, List.set_cons_succ])
    refine wpAnyH_take (i := 18) (oi := { dst := some 24, op := Op.load 3 (Operand.tmp 23), type := 3, pos := "compat.go:98", after := #[{ on := 17, ground := Ground.data }, { on := 16, ground := Ground.guard }], guard := some (16, true) }) (v := undef) rfl (by kernel_rfl) (by kernel_rfl) (by kernel_rfl) (fun _ _ _ h => h) (Or.inr ⟨by rfl, rfl⟩) hHeld ?_
    (try simp only [Act.put, List.setIfInBounds_toArray, List.set_cons_zero, List.set_cons_succ])
    refine wpAnyH_take (i := 19) (oi := { dst := some 25, op := Op.call { callee := Callee.value (Operand.func 45), args := #[Operand.tmp 24], argTypes := #[3] }, type := 3, pos := "compat.go:98", after := #[{ on := 18, ground := Ground.data }, { on := 16, ground := Ground.chain }, { on := 16, ground := Ground.guard }], guard := some (16, true) }) (v := undef) rfl (by kernel_rfl) (by kernel_rfl) (by kernel_rfl) (fun _ _ _ h => h) (Or.inr ⟨by rfl, rfl⟩) hHeld ?_
    (try simp only [Act.put, List.setIfInBounds_toArray, List.set_cons_zero, List.set_cons_succ])
    refine wpAnyH_take (i := 20) (oi := { dst := some 26, op := Op.fieldAddr 42 (Operand.tmp 3) 6, type := 0, pos := "compat.go:98", after := #[{ on := 16, ground := Ground.guard }], guard := some (16, true) }) (v := undef) rfl (by kernel_rfl) (by kernel_rfl) (by kernel_rfl) (fun _ _ _ h => h) (Or.inr ⟨by rfl, rfl⟩) hHeld ?_
    (try simp only [Act.put, List.setIfInBounds_toArray, List.set_cons_zero, List.set_cons_succ])
    refine wpAnyH_take (i := 21) (oi := { dst := some 27, op := Op.load 3 (Operand.tmp 26), type := 3, pos := "compat.go:98", after := #[{ on := 20, ground := Ground.data }, { on := 16, ground := Ground.guard }], guard := some (16, true) }) (v := undef) rfl (by kernel_rfl) (by kernel_rfl) (by kernel_rfl) (fun _ _ _ h => h) (Or.inr ⟨by rfl, rfl⟩) hHeld ?_
    (try simp only [Act.put, List.setIfInBounds_toArray, List.set_cons_zero, List.set_cons_succ])
    refine wpAnyH_take (i := 22) (oi := { dst := some 28, op := Op.call { callee := Callee.value (Operand.func 45), args := #[Operand.tmp 27], argTypes := #[3] }, type := 3, pos := "compat.go:98", after := #[{ on := 21, ground := Ground.data }, { on := 19, ground := Ground.chain }, { on := 16, ground := Ground.guard }], guard := some (16, true) }) (v := undef) rfl (by kernel_rfl) (by kernel_rfl) (by kernel_rfl) (fun _ _ _ h => h) (Or.inr ⟨by rfl, rfl⟩) hHeld ?_
    (try simp only [Act.put, List.setIfInBounds_toArray, List.set_cons_zero, List.set_cons_succ])
    refine wpAnyH_take (i := 23) (oi := { dst := some 29, op := Op.binOp BinOp.neq 3 (Operand.tmp 25) (Operand.tmp 28) 3, type := 4, pos := "compat.go:98", after := #[{ on := 19, ground := Ground.data }, { on := 22, ground := Ground.data }, { on := 16, ground := Ground.guard }], guard := some (16, true) }) (v := undef) rfl (by kernel_rfl) (by kernel_rfl) (by kernel_rfl) (fun _ _ _ h => h) (Or.inr ⟨by rfl, rfl⟩) hHeld ?_
    (try simp only [Act.put, List.setIfInBounds_toArray, List.set_cons_zero, List.set_cons_succ])
    refine wpAnyH_take (i := 24) (oi := { dst := some 30, op := Op.pick (Operand.tmp 22) (Operand.tmp 29) (Operand.const (Value.bool false)), type := 4, pos := "compat.go:98", after := #[{ on := 16, ground := Ground.data }, { on := 23, ground := Ground.data }, { on := 7, ground := Ground.guard }], guard := some (7, false) }) (v := .bool false) rfl (by kernel_rfl) (by kernel_rfl) (by kernel_rfl) (fun _ _ _ h => h) (Or.inl ⟨by rfl, ?_⟩) hHeld ?_
    · intro w hSw; (try dsimp only at hSw); (try go_split_ands); go_simp; (first | done | with_reducible rfl | simp)
    (try simp only [Act.put, List.setIfInBounds_toArray, List.set_cons_zero, List.set_cons_succ])
    refine wpAnyH_take (i := 25) (oi := { dst := some 31, op := Op.pick (Operand.tmp 13) (Operand.const (Value.bool true)) (Operand.tmp 30), type := 4, pos := "compat.go:98", after := #[{ on := 7, ground := Ground.data }, { on := 24, ground := Ground.data }], guard := none }) (v := .bool false) rfl (by kernel_rfl) (by kernel_rfl) (by kernel_rfl) (fun _ _ _ h => h) (Or.inl ⟨by rfl, ?_⟩) hHeld ?_
    · intro w hSw; (try dsimp only at hSw); (try go_split_ands); go_simp; (first | done | with_reducible rfl | simp)
    (try simp only [Act.put, List.setIfInBounds_toArray, List.set_cons_zero, List.set_cons_succ])
    refine wpAnyH_take (i := 26) (oi := { dst := some 5, op := Op.assign (Operand.tmp 31), type := 4, pos := "compat.go:98", after := #[{ on := 25, ground := Ground.data }, { on := 22, ground := Ground.chain }], guard := none }) (v := ?_) rfl (by kernel_rfl) (by kernel_rfl) (by kernel_rfl) (fun _ _ _ h => h) (Or.inl ⟨by rfl, ?_⟩) hHeld ?_
    rotate_left
    · intro w hSw; (try dsimp only at hSw); (try go_split_ands); go_simp; (first | done | with_reducible rfl)
    (try simp only [Act.put, List.setIfInBounds_toArray, List.set_cons_zero, List.set_cons_succ])
    refine wpAnyH_done (by kernel_rfl) ?_ _
    refine NoPanic.normal ?_
    have HB1 : Hid (∀ w2, Below w0.drew.heap.size w0.drew w2 → Below w.heap.size w w2) := Lib.hid fun w2 h2 => (HB0.out.drew).trans (h2.mono HB0.out.size)
    rw [HE0.out]
    rcases z with _ | _
    all_goals
      go_wp2_with (first
        | (rw [← HE0.out]
           with_reducible refine (HL.out _).mono ?_
           rintro e w2 ⟨rfl, h2⟩
           have HF1 : Blk w0.drew w.heap.size _ _ := HF0.out
           have HG1 : Blk w0.drew (w.heap.size + 1) _ _ := HG0.out
           have k5 := (HF1.below h2 HF1.lt).cell 5
           have j5 := (HG1.below h2 HG1.lt).cell 5
           have k2 := (HF1.below h2 HF1.lt).cell 2
           have j2 := (HG1.below h2 HG1.lt).cell 2
           have k1 := (HF1.below h2 HF1.lt).cell 1
           have j1 := (HG1.below h2 HG1.lt).cell 1
           have k3 := (HF1.below h2 HF1.lt).cell 3
           have j3 := (HG1.below h2 HG1.lt).cell 3
           have HN := Lib.hid (HB1.out _ h2)
           simp only [List.getElem?_toArray, List.getElem?_cons_zero, List.getElem?_cons_succ] at k5 j5 k2 j2 k3 j3 k1 j1
           clear h2 HF1 HG1))
    all_goals
      go_ret
      refine HP.out _ ?_ _ (by first | exact HN.out | (rw [← HE0.out]; exact HB1.out _ (Below.refl _ _)))
      have HX := HX.out
      have HY := HY.out
      have HX' := HX'.out
      have HY' := HY'.out
      have HZ := HZ.out
      clear HP HL HA HB HA' HB'
      unfold jsonWhy
      rw [HZ]
      unfold unlikeB refJ oneB nameB sameT
      simp_all
  · go_enter Try.func33, Try.ntmps33
    go_wp2_with fail
    rw [← HE0.out]
    refine wp_region_noPanic ?_
    refine wp_region_held_drew (S := (fun w' => (w'.cell? ⟨w.heap.size, 5, none⟩ = some (.int .i64 b) ∧ w'.cell? ⟨w.heap.size + 1, 5, none⟩ = some (.int .i64 b')) ∧ (w'.cell? ⟨w.heap.size, 6, none⟩ = some (.int .i64 c) ∧ w'.cell? ⟨w.heap.size + 1, 6, none⟩ = some (.int .i64 0)))) (by kernel_rfl) (HC.out _ (.inr rfl)) (fun hHeld => ?_)
    refine wpAnyH_take (i := 0) (oi := { dst := some 6, op := Op.fieldAddr 42 (Operand.tmp 2) 5, type := 0, pos := "compat.go:98", after := #[], guard := none }) (v := ?_) rfl (by kernel_rfl) (by kernel_rfl) (by kernel_rfl) (fun _ _ _ h => h) (Or.inl ⟨by rfl, ?_⟩) hHeld ?_
    rotate_left
    · intro w hSw; (try dsimp only at hSw); (try go_split_ands); go_simp; (first | done | with_reducible rfl)
    (try simp only [Act.put, List.setIfInBounds_toArray, List.set_cons_zero, List.set_cons_succ])
    refine wpAnyH_take (i := 1) (oi := { dst := some 7, op := Op.load 3 (Operand.tmp 6), type := 3, pos := "compat.go:98", after := #[{ on := 0, ground := Ground.data }], guard := none }) (v := ?_) rfl (by kernel_rfl) (by kernel_rfl) (by kernel_rfl) (fun _ _ _ h => h) (Or.inl ⟨by rfl, ?_⟩) hHeld ?_
    rotate_left
    · intro w hSw; (try dsimp only at hSw); (try go_split_ands); go_simp; (first | done | with_reducible rfl)
    (try simp only [Act.put, List.setIfInBounds_toArray, List.set_cons_zero, List.set_cons_succ])
    refine wpAnyH_take (i := 3) (oi := { dst := some 9, op := Op.fieldAddr 42 (Operand.tmp 3) 5, type := 0, pos := "compat.go:98", after := #[], guard := none }) (v := ?_) rfl (by kernel_rfl) (by kernel_rfl) (by kernel_rfl) (fun _ _ _ h => h) (Or.inl ⟨by rfl, ?_⟩) hHeld ?_
    rotate_left
    · intro w hSw; (try dsimp only at hSw); (try go_split_ands); go_simp; (first | done | with_reducible rfl)
    (try simp only [Act.put, List.setIfInBounds_toArray, List.set_cons_zero, List.set_cons_succ])
    refine wpAnyH_take (i := 4) (oi := { dst := some 10, op := Op.load 3 (Operand.tmp 9), type := 3, pos := "compat.go:98", after := #[{ on := 3, ground := Ground.data }], guard := none }) (v := ?_) rfl (by kernel_rfl) (by kernel_rfl) (by kernel_rfl) (fun _ _ _ h => h) (Or.inl ⟨by rfl, ?_⟩) hHeld ?_
    rotate_left
    · intro w hSw; (try dsimp only at hSw); (try go_split_ands); go_simp; (first | done | with_reducible rfl)
    (try simp only [Act.put, List.setIfInBounds_toArray, List.set_cons_zero, List.set_cons_succ])
    refine wpAnyH_ready (rs := [2]) (by kernel_rfl) (by simp) ?_
    refine AllReadyH.cons (o := { dst := some 8, op := Op.call { callee := Callee.value (Operand.func 45), args := #[Operand.tmp 7], argTypes := #[3] }, type := 3, pos := "compat.go:98", after := #[{ on := 1, ground := Ground.data }], guard := none }) rfl (fun K hK => ?_) AllReadyH.nil
    go_simp
    with_reducible refine (HA.out _).mono ?_
    rintro e w2 ⟨rfl, rfl⟩
    go_simp
    refine hK.out _ _ hHeld (fun hHeld2 => ?_)
    clear hHeld
    have hHeld := hHeld2
    clear hHeld2 hK K
    (try simp only [Act.put, List.setIfInBounds_toArray, List.set_cons_zero, List.set_cons_succ])
    refine wpAnyH_ready (rs := [5]) (by kernel_rfl) (by simp) ?_
    refine AllReadyH.cons (o := { dst := some 11, op := Op.call { callee := Callee.value (Operand.func 45), args := #[Operand.tmp 10], argTypes := #[3] }, type := 3, pos := "compat.go:98", after := #[{ on := 4, ground := Ground.data }, { on := 2, ground := Ground.chain }], guard := none }) rfl (fun K hK => ?_) AllReadyH.nil
    go_simp
    with_reducible refine (HA'.out _).mono ?_
    rintro e w2 ⟨rfl, rfl⟩
    go_simp
    refine hK.out _ _ hHeld (fun hHeld2 => ?_)
    clear hHeld
    have hHeld := hHeld2
    clear hHeld2 hK K
    (try simp only [Act.put, List.setIfInBounds_toArray, List.set_cons_zero, List.set_cons_succ])
    refine wpAnyH_take (i := 6) (oi := { dst := some 12, op := Op.binOp BinOp.neq 3 (Operand.tmp 8) (Operand.tmp 11) 3, type := 4, pos := "compat.go:98", after := #[{ on := 2, ground := Ground.data }, { on := 5, ground := Ground.data }], guard := none }) (v := .bool false) rfl (by kernel_rfl) (by kernel_rfl) (by kernel_rfl) (fun _ _ _ h => h) (Or.inl ⟨by rfl, ?_⟩) hHeld ?_
    · intro w hSw; (try dsimp only at hSw); (try go_split_ands); go_simp; (first | done | with_reducible rfl | simp)
    (try simp only [Act.put, List.setIfInBounds_toArray, List.set_cons_zero, List.set_cons_succ])
    refine wpAnyH_take (i := 7) (oi := { dst := some 13, op := Op.move (Operand.tmp 12), type := 4, pos := "compat.go:98", after := #[{ on := 6, ground := Ground.data }, { on := 5, ground := Ground.chain }], guard := none }) (v := ?_) rfl (by kernel_rfl) (by kernel_rfl) (by kernel_rfl) (fun _ _ _ h => h) (Or.inl ⟨by rfl, ?_⟩) hHeld ?_
    rotate_left
    · intro w hSw; (try dsimp only at hSw); (try go_split_ands); go_simp; (first | done | with_reducible rfl)
    (try simp only [Act.put, List.setIfInBounds_toArray, List.set_cons_zero, List.set_cons_succ])
    refine wpAnyH_take (i := 8) (oi := { dst := some 14, op := Op.fieldAddr 42 (Operand.tmp 2) 6, type := 0, pos := "compat.go:98", after := #[{ on := 7, ground := Ground.guard }], guard := some (7, false) }) (v := ?_) rfl (by kernel_rfl) (by kernel_rfl) (by kernel_rfl) (fun _ _ _ h => h) (Or.inl ⟨by rfl, ?_⟩) hHeld ?_
    rotate_left
    · intro w hSw; (try dsimp only at hSw); (try go_split_ands); go_simp; (first | done | with_reducible rfl)
    (try simp only [Act.put, List.setIfInBounds_toArray, List.set_cons_zero, List.set_cons_succ])
    refine wpAnyH_take (i := 9) (oi := { dst := some 15, op := Op.load 3 (Operand.tmp 14), type := 3, pos := "compat.go:98", after := #[{ on := 8, ground := Ground.data }, { on := 7, ground := Ground.guard }], guard := some (7, false) }) (v := ?_) rfl (by kernel_rfl) (by kernel_rfl) (by kernel_rfl) (fun _ _ _ h => h) (Or.inl ⟨by rfl, ?_⟩) hHeld ?_
    rotate_left
    · intro w hSw; (try dsimp only at hSw); (try go_split_ands); go_simp; (first | done | with_reducible rfl)
    (try simp only [Act.put, List.setIfInBounds_toArray, List.set_cons_zero, List.set_cons_succ])
    refine wpAnyH_take (i := 10) (oi := { dst := some 16, op := Op.binOp BinOp.neq 3 (Operand.tmp 15) (Operand.const (Value.int IntKind.i64 0)) 3, type := 4, pos := "compat.go:98", after := #[{ on := 9, ground := Ground.data }, { on := 7, ground := Ground.guard }], guard := some (7, false) }) (v := .bool true) rfl (by kernel_rfl) (by kernel_rfl) (by kernel_rfl) (fun _ _ _ h => h) (Or.inl ⟨by rfl, ?_⟩) hHeld ?_
    · intro w hSw; (try dsimp only at hSw); (try go_split_ands); go_simp; (first | done | with_reducible rfl | simp [hc])
    (try simp only [Act.put, List.setIfInBounds_toArray, List.set_cons_zero, List.set_cons_succ])
    refine wpAnyH_take (i := 11) (oi := { dst := some 17, op := Op.move (Operand.tmp 16), type := 4, pos := "compat.go:98", after := #[{ on := 10, ground := Ground.data }, { on := 7, ground := Ground.chain }, { on := 7, ground := Ground.guard }], guard := some (7, false) }) (v := ?_) rfl (by kernel_rfl) (by kernel_rfl) (by kernel_rfl) (fun _ _ _ h => h) (Or.inl ⟨by rfl, ?_⟩) hHeld ?_
    rotate_left
    · intro w hSw; (try dsimp only at hSw); (try go_split_ands); go_simp; (first | done | with_reducible rfl)
    (try simp only [Act.put, List.setIfInBounds_toArray, List.set_cons_zero, List.set_cons_succ])
    refine wpAnyH_take (i := 12) (oi := { dst := some 18, op := Op.fieldAddr 42 (Operand.tmp 3) 6, type := 0, pos := "compat.go:98", after := #[{ on := 11, ground := Ground.guard }], guard := some (11, true) }) (v := ?_) rfl (by kernel_rfl) (by kernel_rfl) (by kernel_rfl) (fun _ _ _ h => h) (Or.inl ⟨by rfl, ?_⟩) hHeld ?_
    rotate_left
    · intro w hSw; (try dsimp only at hSw); (try go_split_ands); go_simp; (first | done | with_reducible rfl)
    (try simp only [Act.put, List.setIfInBounds_toArray, List.set_cons_zero, List.set_cons_succ])
    refine wpAnyH_take (i := 13) (oi := { dst := some 19, op := Op.load 3 (Operand.tmp 18), type := 3, pos := "compat.go:98", after := #[{ on := 12, ground := Ground.data }, { on := 11, ground := Ground.guard }], guard := some (11, true) }) (v := ?_) rfl (by kernel_rfl) (by kernel_rfl) (by kernel_rfl) (fun _ _ _ h => h) (Or.inl ⟨by rfl, ?_⟩) hHeld ?_
    rotate_left
    · intro w hSw; (try dsimp only at hSw); (try go_split_ands); go_simp; (first | done | with_reducible rfl)
    (try simp only [Act.put, List.setIfInBounds_toArray, List.set_cons_zero, List.set_cons_succ])
    refine wpAnyH_take (i := 14) (oi := { dst := some 20, op := Op.binOp BinOp.neq 3 (Operand.tmp 19) (Operand.const (Value.int IntKind.i64 0)) 3, type := 4, pos := "compat.go:98", after := #[{ on := 13, ground := Ground.data }, { on := 11, ground := Ground.guard }], guard := some (11, true) }) (v := .bool false) rfl (by kernel_rfl) (by kernel_rfl) (by kernel_rfl) (fun _ _ _ h => h) (Or.inl ⟨by rfl, ?_⟩) hHeld ?_
    · intro w hSw; (try dsimp only at hSw); (try go_split_ands); go_simp; (first | done | with_reducible rfl | simp)
    (try simp only [Act.put, List.setIfInBounds_toArray, List.set_cons_zero, List.set_cons_succ])
    refine wpAnyH_take (i := 15) (oi := { dst := some 21, op := Op.pick (Operand.tmp 17) (Operand.tmp 20) (Operand.const (Value.bool false)), type := 4, pos := "compat.go:98", after := #[{ on := 11, ground := Ground.data }, { on := 14, ground := Ground.data }, { on := 7, ground := Ground.guard }], guard := some (7, false) }) (v := ?_) rfl (by kernel_rfl) (by kernel_rfl) (by kernel_rfl) (fun _ _ _ h => h) (Or.inl ⟨by rfl, ?_⟩) hHeld ?_
    rotate_left
    · intro w hSw; (try dsimp only at hSw); (try go_split_ands); go_simp; (first | done | with_reducible rfl)
    (try simp only [Act.put, List.setIfInBounds_toArray, List.set_cons_zero, List.set_cons_succ])
    refine wpAnyH_take (i := 16) (oi := { dst := some 22, op := Op.move (Operand.tmp 21), type := 4, pos := "compat.go:98", after := #[{ on := 15, ground := Ground.data }, { on := 11, ground := Ground.chain }, { on := 7, ground := Ground.guard }], guard := some (7, false) }) (v := ?_) rfl (by kernel_rfl) (by kernel_rfl) (by kernel_rfl) (fun _ _ _ h => h) (Or.inl ⟨by rfl, ?_⟩) hHeld ?_
    rotate_left
    · intro w hSw; (try dsimp only at hSw); (try go_split_ands); go_simp; (first | done | with_reducible rfl)
    (try simp only [Act.put, List.setIfInBounds_toArray, List.set_cons_zero, List.set_cons_succ])
    refine wpAnyH_take (i := 17) (oi := { dst := some 23, op := Op.fieldAddr 42 (Operand.tmp 2) 6, type := 0, pos := "compat.go:98", after := #[{ on := 16, ground := Ground.guard }], guard := some (16, true) }) (v := undef) rfl (by kernel_rfl) (by kernel_rfl) (by kernel_rfl) (fun _ _ _ h => h) (Or.inr ⟨by rfl, rfl⟩) hHeld ?_
    (try simp only [Act.put, List.setIfInBounds_toArray, List.set_cons_zero, List.set_cons_succ])
    refine wpAnyH_take (i := 18) (oi := { dst := some 24, op := Op.load 3 (Operand.tmp 23), type := 3, pos := "compat.go:98", after := #[{ on := 17, ground := Ground.data }, { on := 16, ground := Ground.guard }], guard := some (16, true) }) (v := undef) rfl (by kernel_rfl) (by kernel_rfl) (by kernel_rfl) (fun _ _ _ h => h) (Or.inr ⟨by rfl, rfl⟩) hHeld ?_
    (try simp only [Act.put, List.setIfInBounds_toArray, List.set_cons_zero, List.set_cons_succ])
    refine wpAnyH_take (i := 19) (oi := { dst := some 25, op := Op.call { callee := Callee.value (Operand.func 45), args := #[Operand.tmp 24], argTypes := #[3] }, type := 3, pos := "compat.go:98", after := #[{ on := 18, ground := Ground.data }, { on := 16, ground := Ground.chain }, { on := 16, ground := Ground.guard }], guard := some (16, true) }) (v := undef) rfl (by kernel_rfl) (by kernel_rfl) (by kernel_rfl) (fun _ _ _ h => h) (Or.inr ⟨by rfl, rfl⟩) hHeld ?_
    (try simp only [Act.put, List.setIfInBounds_toArray, List.set_cons_zero, List.set_cons_succ])
    refine wpAnyH_take (i := 20) (oi := { dst := some 26, op := Op.fieldAddr 42 (Operand.tmp 3) 6, type := 0, pos := "compat.go:98", after := #[{ on := 16, ground := Ground.guard }], guard := some (16, true) }) (v := undef) rfl (by kernel_rfl) (by kernel_rfl) (by kernel_rfl) (fun _ _ _ h => h) (Or.inr ⟨by rfl, rfl⟩) hHeld ?_
    (try simp only [Act.put, List.setIfInBounds_toArray, List.set_cons_zero, List.set_cons_succ])
    refine wpAnyH_take (i := 21) (oi := { dst := some 27, op := Op.load 3 (Operand.tmp 26), type := 3, pos := "compat.go:98", after := #[{ on := 20, ground := Ground.data }, { on := 16, ground := Ground.guard }], guard := some (16, true) }) (v := undef) rfl (by kernel_rfl) (by kernel_rfl) (by kernel_rfl) (fun _ _ _ h => h) (Or.inr ⟨by rfl, rfl⟩) hHeld ?_
    (try simp only [Act.put, List.setIfInBounds_toArray, List.set_cons_zero, List.set_cons_succ])
    refine wpAnyH_take (i := 22) (oi := { dst := some 28, op := Op.call { callee := Callee.value (Operand.func 45), args := #[Operand.tmp 27], argTypes := #[3] }, type := 3, pos := "compat.go:98", after := #[{ on := 21, ground := Ground.data }, { on := 19, ground := Ground.chain }, { on := 16, ground := Ground.guard }], guard := some (16, true) }) (v := undef) rfl (by kernel_rfl) (by kernel_rfl) (by kernel_rfl) (fun _ _ _ h => h) (Or.inr ⟨by rfl, rfl⟩) hHeld ?_
    (try simp only [Act.put, List.setIfInBounds_toArray, List.set_cons_zero, List.set_cons_succ])
    refine wpAnyH_take (i := 23) (oi := { dst := some 29, op := Op.binOp BinOp.neq 3 (Operand.tmp 25) (Operand.tmp 28) 3, type := 4, pos := "compat.go:98", after := #[{ on := 19, ground := Ground.data }, { on := 22, ground := Ground.data }, { on := 16, ground := Ground.guard }], guard := some (16, true) }) (v := undef) rfl (by kernel_rfl) (by kernel_rfl) (by kernel_rfl) (fun _ _ _ h => h) (Or.inr ⟨by rfl, rfl⟩) hHeld ?_
    (try simp only [Act.put, List.setIfInBounds_toArray, List.set_cons_zero, List.set_cons_succ])
    refine wpAnyH_take (i := 24) (oi := { dst := some 30, op := Op.pick (Operand.tmp 22) (Operand.tmp 29) (Operand.const (Value.bool false)), type := 4, pos := "compat.go:98", after := #[{ on := 16, ground := Ground.data }, { on := 23, ground := Ground.data }, { on := 7, ground := Ground.guard }], guard := some (7, false) }) (v := ?_) rfl (by kernel_rfl) (by kernel_rfl) (by kernel_rfl) (fun _ _ _ h => h) (Or.inl ⟨by rfl, ?_⟩) hHeld ?_
    rotate_left
    · intro w hSw; (try dsimp only at hSw); (try go_split_ands); go_simp; (first | done | with_reducible rfl)
    (try simp only [Act.put, List.setIfInBounds_toArray, List.set_cons_zero, List.set_cons_succ])
    refine wpAnyH_take (i := 25) (oi := { dst := some 31, op := Op.pick (Operand.tmp 13) (Operand.const (Value.bool true)) (Operand.tmp 30), type := 4, pos := "compat.go:98", after := #[{ on := 7, ground := Ground.data }, { on := 24, ground := Ground.data }], guard := none }) (v := ?_) rfl (by kernel_rfl) (by kernel_rfl) (by kernel_rfl) (fun _ _ _ h => h) (Or.inl ⟨by rfl, ?_⟩) hHeld ?_
    rotate_left
    · intro w hSw; (try dsimp only at hSw); (try go_split_ands); go_simp; (first | done | with_reducible rfl)
    (try simp only [Act.put, List.setIfInBounds_toArray, List.set_cons_zero, List.set_cons_succ])
    refine wpAnyH_take (i := 26) (oi := { dst := some 5, op := Op.assign (Operand.tmp 31), type := 4, pos := "compat.go:98", after := #[{ on := 25, ground := Ground.data }, { on := 22, ground := Ground.chain }], guard := none }) (v := ?_) rfl (by kernel_rfl) (by kernel_rfl) (by kernel_rfl) (fun _ _ _ h => h) (Or.inl ⟨by rfl, ?_⟩) hHeld ?_
    rotate_left
    · intro w hSw; (try dsimp only at hSw); (try go_split_ands); go_simp; (first | done | with_reducible rfl)
    (try simp only [Act.put, List.setIfInBounds_toArray, List.set_cons_zero, List.set_cons_succ])
    refine wpAnyH_done (by kernel_rfl) ?_ _
    refine NoPanic.normal ?_
    have HB1 : Hid (∀ w2, Below w0.drew.heap.size w0.drew w2 → Below w.heap.size w w2) := Lib.hid fun w2 h2 => (HB0.out.drew).trans (h2.mono HB0.out.size)
    rw [HE0.out]
    rcases z with _ | _
    all_goals
      go_wp2_with (first
        | (rw [← HE0.out]
           with_reducible refine (HL.out _).mono ?_
           rintro e w2 ⟨rfl, h2⟩
           have HF1 : Blk w0.drew w.heap.size _ _ := HF0.out
           have HG1 : Blk w0.drew (w.heap.size + 1) _ _ := HG0.out
           have k5 := (HF1.below h2 HF1.lt).cell 5
           have j5 := (HG1.below h2 HG1.lt).cell 5
           have k2 := (HF1.below h2 HF1.lt).cell 2
           have j2 := (HG1.below h2 HG1.lt).cell 2
           have k1 := (HF1.below h2 HF1.lt).cell 1
           have j1 := (HG1.below h2 HG1.lt).cell 1
           have k3 := (HF1.below h2 HF1.lt).cell 3
           have j3 := (HG1.below h2 HG1.lt).cell 3
           have HN := Lib.hid (HB1.out _ h2)
           simp only [List.getElem?_toArray, List.getElem?_cons_zero, List.getElem?_cons_succ] at k5 j5 k2 j2 k3 j3 k1 j1
           clear h2 HF1 HG1))
    all_goals
      go_ret
      refine HP.out _ ?_ _ (by first | exact HN.out | (rw [← HE0.out]; exact HB1.out _ (Below.refl _ _)))
      have HX := HX.out
      have HY := HY.out
      have HX' := HX'.out
      have HY' := HY'.out
      have HZ := HZ.out
      clear HP HL HA HB HA' HB'
      unfold jsonWhy
      rw [HZ]
      unfold unlikeB refJ oneB nameB sameT
      simp_all
  · go_enter Try.func33, Try.ntmps33
    go_wp2_with fail
    rw [← HE0.out]
    refine wp_region_noPanic ?_
    refine wp_region_held_drew (S := (fun w' => (w'.cell? ⟨w.heap.size, 5, none⟩ = some (.int .i64 b) ∧ w'.cell? ⟨w.heap.size + 1, 5, none⟩ = some (.int .i64 b')) ∧ (w'.cell? ⟨w.heap.size, 6, none⟩ = some (.int .i64 c) ∧ w'.cell? ⟨w.heap.size + 1, 6, none⟩ = some (.int .i64 c')))) (by kernel_rfl) (HC.out _ (.inr rfl)) (fun hHeld => ?_)
    refine wpAnyH_take (i := 0) (oi := { dst := some 6, op := Op.fieldAddr 42 (Operand.tmp 2) 5, type := 0, pos := "compat.go:98", after := #[], guard := none }) (v := ?_) rfl (by kernel_rfl) (by kernel_rfl) (by kernel_rfl) (fun _ _ _ h => h) (Or.inl ⟨by rfl, ?_⟩) hHeld ?_
    rotate_left
    · intro w hSw; (try dsimp only at hSw); (try go_split_ands); go_simp; (first | done | with_reducible rfl)
    (try simp only [Act.put, List.setIfInBounds_toArray, List.set_cons_zero, List.set_cons_succ])
    refine wpAnyH_take (i := 1) (oi := { dst := some 7, op := Op.load 3 (Operand.tmp 6), type := 3, pos := "compat.go:98", after := #[{ on := 0, ground := Ground.data }], guard := none }) (v := ?_) rfl (by kernel_rfl) (by kernel_rfl) (by kernel_rfl) (fun _ _ _ h => h) (Or.inl ⟨by rfl, ?_⟩) hHeld ?_
    rotate_left
    · intro w hSw; (try dsimp only at hSw); (try go_split_ands); go_simp; (first | done | with_reducible rfl)
    (try simp only [Act.put, List.setIfInBounds_toArray, List.set_cons_zero, List.set_cons_succ])
    refine wpAnyH_take (i := 3) (oi := { dst := some 9, op := Op.fieldAddr 42 (Operand.tmp 3) 5, type := 0, pos := "compat.go:98", after := #[], guard := none }) (v := ?_) rfl (by kernel_rfl) (by kernel_rfl) (by kernel_rfl) (fun _ _ _ h => h) (Or.inl ⟨by rfl, ?_⟩) hHeld ?_
    rotate_left
    · intro w hSw; (try dsimp only at hSw); (try go_split_ands); go_simp; (first | done | with_reducible rfl)
    (try simp only [Act.put, List.setIfInBounds_toArray, List.set_cons_zero, List.set_cons_succ])
    refine wpAnyH_take (i := 4) (oi := { dst := some 10, op := Op.load 3 (Operand.tmp 9), type := 3, pos := "compat.go:98", after := #[{ on := 3, ground := Ground.data }], guard := none }) (v := ?_) rfl (by kernel_rfl) (by kernel_rfl) (by kernel_rfl) (fun _ _ _ h => h) (Or.inl ⟨by rfl, ?_⟩) hHeld ?_
    rotate_left
    · intro w hSw; (try dsimp only at hSw); (try go_split_ands); go_simp; (first | done | with_reducible rfl)
    (try simp only [Act.put, List.setIfInBounds_toArray, List.set_cons_zero, List.set_cons_succ])
    refine wpAnyH_ready (rs := [2]) (by kernel_rfl) (by simp) ?_
    refine AllReadyH.cons (o := { dst := some 8, op := Op.call { callee := Callee.value (Operand.func 45), args := #[Operand.tmp 7], argTypes := #[3] }, type := 3, pos := "compat.go:98", after := #[{ on := 1, ground := Ground.data }], guard := none }) rfl (fun K hK => ?_) AllReadyH.nil
    go_simp
    with_reducible refine (HA.out _).mono ?_
    rintro e w2 ⟨rfl, rfl⟩
    go_simp
    refine hK.out _ _ hHeld (fun hHeld2 => ?_)
    clear hHeld
    have hHeld := hHeld2
    clear hHeld2 hK K
    (try simp only [Act.put, List.setIfInBounds_toArray, List.set_cons_zero, List.set_cons_succ])
    refine wpAnyH_ready (rs := [5]) (by kernel_rfl) (by simp) ?_
    refine AllReadyH.cons (o := { dst := some 11, op := Op.call { callee := Callee.value (Operand.func 45), args := #[Operand.tmp 10], argTypes := #[3] }, type := 3, pos := "compat.go:98", after := #[{ on := 4, ground := Ground.data }, { on := 2, ground := Ground.chain }], guard := none }) rfl (fun K hK => ?_) AllReadyH.nil
    go_simp
    with_reducible refine (HA'.out _).mono ?_
    rintro e w2 ⟨rfl, rfl⟩
    go_simp
    refine hK.out _ _ hHeld (fun hHeld2 => ?_)
    clear hHeld
    have hHeld := hHeld2
    clear hHeld2 hK K
    (try simp only [Act.put, List.setIfInBounds_toArray, List.set_cons_zero, List.set_cons_succ])
    refine wpAnyH_take (i := 6) (oi := { dst := some 12, op := Op.binOp BinOp.neq 3 (Operand.tmp 8) (Operand.tmp 11) 3, type := 4, pos := "compat.go:98", after := #[{ on := 2, ground := Ground.data }, { on := 5, ground := Ground.data }], guard := none }) (v := .bool false) rfl (by kernel_rfl) (by kernel_rfl) (by kernel_rfl) (fun _ _ _ h => h) (Or.inl ⟨by rfl, ?_⟩) hHeld ?_
    · intro w hSw; (try dsimp only at hSw); (try go_split_ands); go_simp; (first | done | with_reducible rfl | simp)
    (try simp only [Act.put, List.setIfInBounds_toArray, List.set_cons_zero, List.set_cons_succ])
    refine wpAnyH_take (i := 7) (oi := { dst := some 13, op := Op.move (Operand.tmp 12), type := 4, pos := "compat.go:98", after := #[{ on := 6, ground := Ground.data }, { on := 5, ground := Ground.chain }], guard := none }) (v := ?_) rfl (by kernel_rfl) (by kernel_rfl) (by kernel_rfl) (fun _ _ _ h => h) (Or.inl ⟨by rfl, ?_⟩) hHeld ?_
    rotate_left
    · intro w hSw; (try dsimp only at hSw); (try go_split_ands); go_simp; (first | done | with_reducible rfl)
    (try simp only [Act.put, List.setIfInBounds_toArray, List.set_cons_zero, List.set_cons_succ])
    refine wpAnyH_take (i := 8) (oi := { dst := some 14, op := Op.fieldAddr 42 (Operand.tmp 2) 6, type := 0, pos := "compat.go:98", after := #[{ on := 7, ground := Ground.guard }], guard := some (7, false) }) (v := ?_) rfl (by kernel_rfl) (by kernel_rfl) (by kernel_rfl) (fun _ _ _ h => h) (Or.inl ⟨by rfl, ?_⟩) hHeld ?_
    rotate_left
    · intro w hSw; (try dsimp only at hSw); (try go_split_ands); go_simp; (first | done | with_reducible rfl)
    (try simp only [Act.put, List.setIfInBounds_toArray, List.set_cons_zero, List.set_cons_succ])
    refine wpAnyH_take (i := 9) (oi := { dst := some 15, op := Op.load 3 (Operand.tmp 14), type := 3, pos := "compat.go:98", after := #[{ on := 8, ground := Ground.data }, { on := 7, ground := Ground.guard }], guard := some (7, false) }) (v := ?_) rfl (by kernel_rfl) (by kernel_rfl) (by kernel_rfl) (fun _ _ _ h => h) (Or.inl ⟨by rfl, ?_⟩) hHeld ?_
    rotate_left
    · intro w hSw; (try dsimp only at hSw); (try go_split_ands); go_simp; (first | done | with_reducible rfl)
    (try simp only [Act.put, List.setIfInBounds_toArray, List.set_cons_zero, List.set_cons_succ])
    refine wpAnyH_take (i := 10) (oi := { dst := some 16, op := Op.binOp BinOp.neq 3 (Operand.tmp 15) (Operand.const (Value.int IntKind.i64 0)) 3, type := 4, pos := "compat.go:98", after := #[{ on := 9, ground := Ground.data }, { on := 7, ground := Ground.guard }], guard := some (7, false) }) (v := .bool true) rfl (by kernel_rfl) (by kernel_rfl) (by kernel_rfl) (fun _ _ _ h => h) (Or.inl ⟨by rfl, ?_⟩) hHeld ?_
    · intro w hSw; (try dsimp only at hSw); (try go_split_ands); go_simp; (first | done | with_reducible rfl | simp [hc])
    (try simp only [Act.put, List.setIfInBounds_toArray, List.set_cons_zero, List.set_cons_succ])
    refine wpAnyH_take (i := 11) (oi := { dst := some 17, op := Op.move (Operand.tmp 16), type := 4, pos := "compat.go:98", after := #[{ on := 10, ground := Ground.data }, { on := 7, ground := Ground.chain }, { on := 7, ground := Ground.guard }], guard := some (7, false) }) (v := ?_) rfl (by kernel_rfl) (by kernel_rfl) (by kernel_rfl) (fun _ _ _ h => h) (Or.inl ⟨by rfl, ?_⟩) hHeld ?_
    rotate_left
    · intro w hSw; (try dsimp only at hSw); (try go_split_ands); go_simp; (first | done | with_reducible rfl)
    (try simp only [Act.put, List.setIfInBounds_toArray, List.set_cons_zero, List.set_cons_succ])
    refine wpAnyH_take (i := 12) (oi := { dst := some 18, op := Op.fieldAddr 42 (Operand.tmp 3) 6, type := 0, pos := "compat.go:98", after := #[{ on := 11, ground := Ground.guard }], guard := some (11, true) }) (v := ?_) rfl (by kernel_rfl) (by kernel_rfl) (by kernel_rfl) (fun _ _ _ h => h) (Or.inl ⟨by rfl, ?_⟩) hHeld ?_
    rotate_left
    · intro w hSw; (try dsimp only at hSw); (try go_split_ands); go_simp; (first | done | with_reducible rfl)
    (try simp only [Act.put, List.setIfInBounds_toArray, List.set_cons_zero, List.set_cons_succ])
    refine wpAnyH_take (i := 13) (oi := { dst := some 19, op := Op.load 3 (Operand.tmp 18), type := 3, pos := "compat.go:98", after := #[{ on := 12, ground := Ground.data }, { on := 11, ground := Ground.guard }], guard := some (11, true) }) (v := ?_) rfl (by kernel_rfl) (by kernel_rfl) (by kernel_rfl) (fun _ _ _ h => h) (Or.inl ⟨by rfl, ?_⟩) hHeld ?_
    rotate_left
    · intro w hSw; (try dsimp only at hSw); (try go_split_ands); go_simp; (first | done | with_reducible rfl)
    (try simp only [Act.put, List.setIfInBounds_toArray, List.set_cons_zero, List.set_cons_succ])
    refine wpAnyH_take (i := 14) (oi := { dst := some 20, op := Op.binOp BinOp.neq 3 (Operand.tmp 19) (Operand.const (Value.int IntKind.i64 0)) 3, type := 4, pos := "compat.go:98", after := #[{ on := 13, ground := Ground.data }, { on := 11, ground := Ground.guard }], guard := some (11, true) }) (v := .bool true) rfl (by kernel_rfl) (by kernel_rfl) (by kernel_rfl) (fun _ _ _ h => h) (Or.inl ⟨by rfl, ?_⟩) hHeld ?_
    · intro w hSw; (try dsimp only at hSw); (try go_split_ands); go_simp; (first | done | with_reducible rfl | simp [hc'])
    (try simp only [Act.put, List.setIfInBounds_toArray, List.set_cons_zero, List.set_cons_succ])
    refine wpAnyH_take (i := 15) (oi := { dst := some 21, op := Op.pick (Operand.tmp 17) (Operand.tmp 20) (Operand.const (Value.bool false)), type := 4, pos := "compat.go:98", after := #[{ on := 11, ground := Ground.data }, { on := 14, ground := Ground.data }, { on := 7, ground := Ground.guard }], guard := some (7, false) }) (v := ?_) rfl (by kernel_rfl) (by kernel_rfl) (by kernel_rfl) (fun _ _ _ h => h) (Or.inl ⟨by rfl, ?_⟩) hHeld ?_
    rotate_left
    · intro w hSw; (try dsimp only at hSw); (try go_split_ands); go_simp; (first | done | with_reducible rfl)
    (try simp only [Act.put, List.setIfInBounds_toArray, List.set_cons_zero, List.set_cons_succ])
    refine wpAnyH_take (i := 16) (oi := { dst := some 22, op := Op.move (Operand.tmp 21), type := 4, pos := "compat.go:98", after := #[{ on := 15, ground := Ground.data }, { on := 11, ground := Ground.chain }, { on := 7, ground := Ground.guard }], guard := some (7, false) }) (v := ?_) rfl (by kernel_rfl) (by kernel_rfl) (by kernel_rfl) (fun _ _ _ h => h) (Or.inl ⟨by rfl, ?_⟩) hHeld ?_
    rotate_left
    · intro w hSw; (try dsimp only at hSw); (try go_split_ands); go_simp; (first | done | with_reducible rfl)
    (try simp only [Act.put, List.setIfInBounds_toArray, List.set_cons_zero, List.set_cons_succ])
    refine wpAnyH_take (i := 17) (oi := { dst := some 23, op := Op.fieldAddr 42 (Operand.tmp 2) 6, type := 0, pos := "compat.go:98", after := #[{ on := 16, ground := Ground.guard }], guard := some (16, true) }) (v := ?_) rfl (by kernel_rfl) (by kernel_rfl) (by kernel_rfl) (fun _ _ _ h => h) (Or.inl ⟨by rfl, ?_⟩) hHeld ?_
    rotate_left
    · intro w hSw; (try dsimp only at hSw); (try go_split_ands); go_simp; (first | done | with_reducible rfl)
    (try simp only [Act.put, List.setIfInBounds_toArray, List.set_cons_zero, List.set_cons_succ])
    refine wpAnyH_take (i := 18) (oi := { dst := some 24, op := Op.load 3 (Operand.tmp 23), type := 3, pos := "compat.go:98", after := #[{ on := 17, ground := Ground.data }, { on := 16, ground := Ground.guard }], guard := some (16, true) }) (v := ?_) rfl (by kernel_rfl) (by kernel_rfl) (by kernel_rfl) (fun _ _ _ h => h) (Or.inl ⟨by rfl, ?_⟩) hHeld ?_
    rotate_left
    · intro w hSw; (try dsimp only at hSw); (try go_split_ands); go_simp; (first | done | with_reducible rfl)
    (try simp only [Act.put, List.setIfInBounds_toArray, List.set_cons_zero, List.set_cons_succ])
    refine wpAnyH_take (i := 20) (oi := { dst := some 26, op := Op.fieldAddr 42 (Operand.tmp 3) 6, type := 0, pos := "compat.go:98", after := #[{ on := 16, ground := Ground.guard }], guard := some (16, true) }) (v := ?_) rfl (by kernel_rfl) (by kernel_rfl) (by kernel_rfl) (fun _ _ _ h => h) (Or.inl ⟨by rfl, ?_⟩) hHeld ?_
    rotate_left
    · intro w hSw; (try dsimp only at hSw); (try go_split_ands); go_simp; (first | done | with_reducible rfl)
    (try simp only [Act.put, List.setIfInBounds_toArray, List.set_cons_zero, List.set_cons_succ])
    refine wpAnyH_take (i := 21) (oi := { dst := some 27, op := Op.load 3 (Operand.tmp 26), type := 3, pos := "compat.go:98", after := #[{ on := 20, ground := Ground.data }, { on := 16, ground := Ground.guard }], guard := some (16, true) }) (v := ?_) rfl (by kernel_rfl) (by kernel_rfl) (by kernel_rfl) (fun _ _ _ h => h) (Or.inl ⟨by rfl, ?_⟩) hHeld ?_
    rotate_left
    · intro w hSw; (try dsimp only at hSw); (try go_split_ands); go_simp; (first | done | with_reducible rfl)
    (try simp only [Act.put, List.setIfInBounds_toArray, List.set_cons_zero, List.set_cons_succ])
    refine wpAnyH_ready (rs := [19]) (by kernel_rfl) (by simp) ?_
    refine AllReadyH.cons (o := { dst := some 25, op := Op.call { callee := Callee.value (Operand.func 45), args := #[Operand.tmp 24], argTypes := #[3] }, type := 3, pos := "compat.go:98", after := #[{ on := 18, ground := Ground.data }, { on := 16, ground := Ground.chain }, { on := 16, ground := Ground.guard }], guard := some (16, true) }) rfl (fun K hK => ?_) AllReadyH.nil
    go_simp
    with_reducible refine (HB.out _).mono ?_
    rintro e w2 ⟨rfl, rfl⟩
    go_simp
    refine hK.out _ _ hHeld (fun hHeld2 => ?_)
    clear hHeld
    have hHeld := hHeld2
    clear hHeld2 hK K
    (try simp only [Act.put, List.setIfInBounds_toArray, List.set_cons_zero, List.set_cons_succ])
    refine wpAnyH_ready (rs := [22]) (by kernel_rfl) (by simp) ?_
    refine AllReadyH.cons (o := { dst := some 28, op := Op.call { callee := Callee.value (Operand.func 45), args := #[Operand.tmp 27], argTypes := #[3] }, type := 3, pos := "compat.go:98", after := #[{ on := 21, ground := Ground.data }, { on := 19, ground := Ground.chain }, { on := 16, ground := Ground.guard }], guard := some (16, true) }) rfl (fun K hK => ?_) AllReadyH.nil
    go_simp
    with_reducible refine (HB'.out _).mono ?_
    rintro e w2 ⟨rfl, rfl⟩
    go_simp
    refine hK.out _ _ hHeld (fun hHeld2 => ?_)
    clear hHeld
    have hHeld := hHeld2
    clear hHeld2 hK K
    (try simp only [Act.put, List.setIfInBounds_toArray, List.set_cons_zero, List.set_cons_succ])
    refine wpAnyH_take (i := 23) (oi := { dst := some 29, op := Op.binOp BinOp.neq 3 (Operand.tmp 25) (Operand.tmp 28) 3, type := 4, pos := "compat.go:98", after := #[{ on := 19, ground := Ground.data }, { on := 22, ground := Ground.data }, { on := 16, ground := Ground.guard }], guard := some (16, true) }) (v := ?_) rfl (by kernel_rfl) (by kernel_rfl) (by kernel_rfl) (fun _ _ _ h => h) (Or.inl ⟨by rfl, ?_⟩) hHeld ?_
    rotate_left
    · intro w hSw; (try dsimp only at hSw); (try go_split_ands); go_simp; (first | done | with_reducible rfl)
    (try simp only [Act.put, List.setIfInBounds_toArray, List.set_cons_zero, List.set_cons_succ])
    refine wpAnyH_take (i := 24) (oi := { dst := some 30, op := Op.pick (Operand.tmp 22) (Operand.tmp 29) (Operand.const (Value.bool false)), type := 4, pos := "compat.go:98", after := #[{ on := 16, ground := Ground.data }, { on := 23, ground := Ground.data }, { on := 7, ground := Ground.guard }], guard := some (7, false) }) (v := ?_) rfl (by kernel_rfl) (by kernel_rfl) (by kernel_rfl) (fun _ _ _ h => h) (Or.inl ⟨by rfl, ?_⟩) hHeld ?_
    rotate_left
    · intro w hSw; (try dsimp only at hSw); (try go_split_ands); go_simp; (first | done | with_reducible rfl)
    (try simp only [Act.put, List.setIfInBounds_toArray, List.set_cons_zero, List.set_cons_succ])
    refine wpAnyH_take (i := 25) (oi := { dst := some 31, op := Op.pick (Operand.tmp 13) (Operand.const (Value.bool true)) (Operand.tmp 30), type := 4, pos := "compat.go:98", after := #[{ on := 7, ground := Ground.data }, { on := 24, ground := Ground.data }], guard := none }) (v := ?_) rfl (by kernel_rfl) (by kernel_rfl) (by kernel_rfl) (fun _ _ _ h => h) (Or.inl ⟨by rfl, ?_⟩) hHeld ?_
    rotate_left
    · intro w hSw; (try dsimp only at hSw); (try go_split_ands); go_simp; (first | done | with_reducible rfl)
    (try simp only [Act.put, List.setIfInBounds_toArray, List.set_cons_zero, List.set_cons_succ])
    refine wpAnyH_take (i := 26) (oi := { dst := some 5, op := Op.assign (Operand.tmp 31), type := 4, pos := "compat.go:98", after := #[{ on := 25, ground := Ground.data }, { on := 22, ground := Ground.chain }], guard := none }) (v := ?_) rfl (by kernel_rfl) (by kernel_rfl) (by kernel_rfl) (fun _ _ _ h => h) (Or.inl ⟨by rfl, ?_⟩) hHeld ?_
    rotate_left
    · intro w hSw; (try dsimp only at hSw); (try go_split_ands); go_simp; (first | done | with_reducible rfl)
    (try simp only [Act.put, List.setIfInBounds_toArray, List.set_cons_zero, List.set_cons_succ])
    refine wpAnyH_done (by kernel_rfl) ?_ _
    refine NoPanic.normal ?_
    have HB1 : Hid (∀ w2, Below w0.drew.heap.size w0.drew w2 → Below w.heap.size w w2) := Lib.hid fun w2 h2 => (HB0.out.drew).trans (h2.mono HB0.out.size)
    rw [HE0.out]
    rcases z with _ | _
    all_goals
      go_wp2_with (first
        | (rw [← HE0.out]
           with_reducible refine (HL.out _).mono ?_
           rintro e w2 ⟨rfl, h2⟩
           have HF1 : Blk w0.drew w.heap.size _ _ := HF0.out
           have HG1 : Blk w0.drew (w.heap.size + 1) _ _ := HG0.out
           have k5 := (HF1.below h2 HF1.lt).cell 5
           have j5 := (HG1.below h2 HG1.lt).cell 5
           have k2 := (HF1.below h2 HF1.lt).cell 2
           have j2 := (HG1.below h2 HG1.lt).cell 2
           have k1 := (HF1.below h2 HF1.lt).cell 1
           have j1 := (HG1.below h2 HG1.lt).cell 1
           have k3 := (HF1.below h2 HF1.lt).cell 3
           have j3 := (HG1.below h2 HG1.lt).cell 3
           have HN := Lib.hid (HB1.out _ h2)
           simp only [List.getElem?_toArray, List.getElem?_cons_zero, List.getElem?_cons_succ] at k5 j5 k2 j2 k3 j3 k1 j1
           clear h2 HF1 HG1))
    all_goals
      go_ret
      refine HP.out _ ?_ _ (by first | exact HN.out | (rw [← HE0.out]; exact HB1.out _ (Below.refl _ _)))
      have HX := HX.out
      have HY := HY.out
      have HX' := HX'.out
      have HY' := HY'.out
      have HZ := HZ.out
      clear HP HL HA HB HA' HB'
      unfold jsonWhy
      rw [HZ]
      unfold unlikeB refJ oneB nameB sameT
      simp_all
end Go.Proofs.Ytcjcpkjdhagofaa
