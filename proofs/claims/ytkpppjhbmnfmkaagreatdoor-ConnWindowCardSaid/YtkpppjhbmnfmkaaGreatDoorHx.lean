/-
  frame.Open of every unpadded frame but PRIORITY and PUSH_PROMISE; contract: frame.Build of what has no padding.
-/
import Derived.Test.YtkpppjhbmnfmkaaGreatDoorJe
import Derived.Test.YtkpppjhbmnfmkaaGreatDoorHs
import Derived.Test.YtkpppjhbmnfmkaaGreatDoorHu
import Derived.Test.YtkpppjhbmnfmkaaGreatDoorHv
import Derived.Test.YtkpppjhbmnfmkaaGreatDoorHw
import Derived.Test.YtkpppjhbmnfmkaaGreatDoorJf
set_option linter.unusedSimpArgs false
set_option linter.unusedVariables false
namespace Go.Proofs.YtkpppjhbmnfmkaaGreatDoor
open Go.RowKit Go.Own Go.Own.Fr Go.Own.Im
attribute [local go_sem] Oper.semAt_some
theorem enter_sets : Enters Tryz.prog 185 := enters_of Tryz.func185 (by kernel_rfl) rfl
set_option maxHeartbeats 1000000 in
theorem open_more (t f s : Nat) (A : Option Addr) (n c B : Nat) (l : List UInt8) (W : World) (hr : Rd W B A n l) (hB : B ≤ W.heap.size) (hc : n ≤ c) (hn : n ≤ 1000000) (ht : t ≤ 255) (hf : f ≤ 255) (hs : s ≤ 2147483647) (hp : hasF t f 8 = false)
    (hk : t ≠ 2 ∧ t ≠ 5 ∧ (t = 1 → hasF t f 32 = false)) :
    Calls Tryz.prog 104 #[.agg #[.int .i64 (t : Nat), .int .i64 (f : Nat), .int .i64 (s : Nat), .slice A n c]] W (OpPost W t f s l) := by
  by_cases h4 : t = 4
  · subst h4
    refine open_any 4 f s A n c B l W hr hB ht hf hs hp fun W' g g3 g6 g8 hb hE hI hg => ?_
    exact ⟨_, #[], rfl, enter_sets, rdSets g (info0 4 f s) A n c W.heap.size l W' hI ((hr.more hB).below hb) hb.size hc hn rfl ⟨rfl, rfl⟩⟩
  · exact open_plain t f s A n c B l W hr hB hc (by omega) ht hf hs hp ⟨hk.1, h4, hk.2.1, hk.2.2⟩
theorem results_build (tmps : Array Value) (w : World) (g : Nat) (a b c d v : Value) (ht : tmps[2]? = some (.pointer (some ⟨g, 0, none⟩))) (h3 : tmps[3]? = some v) (hb : Blk w g 24 #[a, b, c, d]) :
    (results Tryz.f66 tmps).run Tryz.prog w = .ok (.tuple #[.agg #[a, b, c, d], v]) w := by
  have c0 : w.cell? ⟨g, 0, none⟩ = some a := hb.cell 0
  have c1 : w.cell? ⟨g, 1, none⟩ = some b := hb.cell 1
  have c2 : w.cell? ⟨g, 2, none⟩ = some c := hb.cell 2
  have c3 : w.cell? ⟨g, 3, none⟩ = some d := hb.cell 3
  simp [results, Tryz.results66, go_sem, ht, h3, c0, c1, c2, c3]
/-- What a load of a whole block hands out. -/
theorem load_row {i : Inf} {g : Nat} {A A2 : Option Addr} {n n2 c c2 : Nat} {w : World} (h : Blk w g 91 (infC i (.slice A n c) (.slice A2 n2 c2))) : (Instr.loadAt 91 (.pointer (some ⟨g, 0, none⟩))).run Tryz.prog w = .ok (.agg (infC i (.slice A n c) (.slice A2 n2 c2))) w :=
  run_loadAt_row w g _ _ _ h _ Tryz.underlying91 rfl infSize
/-- What building a frame leaves. -/
def BuPost (W : World) (i : Inf) (e : Ending) (w' : World) : Prop :=
  ∃ A c', e = .returned (.tuple #[.agg #[.int .i64 (i.typ : Nat), .int .i64 (flg i : Nat), .int .i64 (i.stream : Nat), .slice A (pay i).length c'], .nilIface]) ∧ Ow w' W.heap.size 5 (.slice A (pay i).length c') (pay i).length (pay i) ∧ Below W.heap.size W w'
/-- How it is written. -/
def WrPost (W : World) (p : List UInt8) (e : Ending) (w' : World) : Prop := ∃ A m c, e = .returned (.slice A m c) ∧ Rd w' w'.heap.size A m p ∧ Below W.heap.size W w'
set_option maxHeartbeats 8000000 in
set_option maxRecDepth 100000 in
theorem build_any (i : Inf) (S : Option Addr) (d : Nat) (A : Option Addr) (n c B : Nat) (K : Nat) (W : World) (hf : FitI i) (hs : SetR W (.slice S i.sets.length d) i.sets) (hr : Rd W B A n i.data) (hB : B ≤ W.heap.size)
    (hp : i.padded = false) (hk : wrV i.typ = .func (.func K) #[] #[]) (hE : Enters Tryz.prog K)
    (hw : ∀ W', Below W.heap.size W W' → Calls Tryz.prog K #[.agg (infC i (.slice S i.sets.length d) (.slice A n c))] W' (WrPost W' (pay i))) (hlp : (pay i).length ≤ 1000000)
    (ho : opn i.typ (flg i) i.stream (pay i) = .ok i) (hf8 : flg i ≤ 255) (hpf : hasF i.typ (flg i) 8 = false) (htk : i.typ ≠ 2 ∧ i.typ ≠ 5 ∧ (i.typ = 1 → hasF i.typ (flg i) 32 = false)) :
    Calls Tryz.prog 66 #[.agg (infC i (.slice S i.sets.length d) (.slice A n c))] W (BuPost W i) := by
  have hn := hr.1
  subst hn
  have hE : ∀ args w, (callFunc K args).run Tryz.prog w = .ok (.enter K args) w := hE
  have hX1 := (Blk.new W 91 (infC i (.slice S i.sets.length d) (.slice A i.data.length c))).alloc (.cells #[.int .i64 0, .int .i64 0, .int .i64 0, .slice none 0 0] 24)
  have hX2 : Blk ((W.alloc (.cells (infC i (.slice S i.sets.length d) (.slice A i.data.length c)) 91)).alloc (.cells #[.int .i64 0, .int .i64 0, .int .i64 0, .slice none 0 0] 24)) (W.heap.size + 1) 24 #[.int .i64 0, .int .i64 0, .int .i64 0, .slice none 0 0] := by
    have h := Blk.new (W.alloc (.cells (infC i (.slice S i.sets.length d) (.slice A i.data.length c)) 91)) 24 #[.int .i64 0, .int .i64 0, .int .i64 0, .slice none 0 0]
    rw [show (W.alloc (.cells (infC i (.slice S i.sets.length d) (.slice A i.data.length c)) 91)).heap.size = W.heap.size + 1 by simp] at h
    exact h
  have hB1 : Below W.heap.size W ((W.alloc (.cells (infC i (.slice S i.sets.length d) (.slice A i.data.length c)) 91)).alloc (.cells #[.int .i64 0, .int .i64 0, .int .i64 0, .slice none 0 0] 24)) := ((Below.refl _ _).alloc (Nat.le_refl _) _).alloc (by simp) _
  have HZ1 := Lib.hid (show ((W.alloc (.cells (infC i (.slice S i.sets.length d) (.slice A i.data.length c)) 91)).alloc (.cells #[.int .i64 0, .int .i64 0, .int .i64 0, .slice none 0 0] 24)).heap.size = W.heap.size + 2 by simp)
  have HX1 := Lib.hid hX1
  have HX2 := Lib.hid hX2
  have HB1 := Lib.hid hB1
  have HSr := Lib.hid hs
  have HR := Lib.hid (hr.more hB)
  have HF := Lib.hid hf
  have HW := Lib.hid hw
  have HP := Lib.hid (show hasF i.typ (flg i) 8 = false ∧ (i.typ ≠ 2 ∧ i.typ ≠ 5 ∧ (i.typ = 1 → hasF i.typ (flg i) 32 = false)) ∧ flg i ≤ 255 ∧ opn i.typ (flg i) i.stream (pay i) = .ok i ∧ (pay i).length ≤ 1000000 ∧ i.padded = false ∧ wrV i.typ = .func (.func K) #[] #[] from ⟨hpf, htk, hf8, ho, hlp, hp, hk⟩)
  clear hX1 hX2 hB1 hs hr hf hw hpf htk hf8 ho hlp hp hk hB
  go_enter Tryz.func66, Tryz.ntmps66
  go_upto_region 1 with fail
  generalize (W.alloc (.cells (infC i (.slice S i.sets.length d) (.slice A i.data.length c)) 91)).alloc (.cells #[.int .i64 0, .int .i64 0, .int .i64 0, .slice none 0 0] 24) = W1 at *
  go_wp2_with (first
    | (refine wpList_rowGet _ rfl (.tmp 1) 91 rfl W.heap.size 91 _ rfl HX1.out _ Tryz.underlying91 rfl infSize ?_)
    | fail)
  refine (fit_any i (.slice S i.sets.length d) (.slice A i.data.length c) W1 HF.out (HSr.out.below HB1.out)).mono ?_
  rintro e W2 ⟨rfl, hb⟩
  have HB2 := Lib.hid (HB1.out.trans (hb.mono HB1.out.size))
  have HX1b := Lib.hid (HX1.out.below hb HX1.out.lt)
  have HX2b := Lib.hid (HX2.out.below hb HX2.out.lt)
  clear hb HX1 HX2 HB1
  have c0 : W2.cell? ⟨W.heap.size, 0, none⟩ = some (.int .i64 (i.typ : Nat)) := HX1b.out.cell 0
  go_wp2_with fail
  refine (sort_any i.typ W2 HF.out.typ).mono ?_
  rintro e W3 ⟨g3, g6, g8, rfl, _, hb⟩
  obtain ⟨b1, hb1⟩ : ∃ b, (rowOf i.typ).1 = b := ⟨_, rfl⟩
  obtain ⟨b2, hb2⟩ : ∃ b, (rowOf i.typ).2.1 = b := ⟨_, rfl⟩
  obtain ⟨n3, hn3⟩ : ∃ b, (rowOf i.typ).2.2 = b := ⟨_, rfl⟩
  obtain ⟨K1, cap1, hrv⟩ := rdV_form g3 g6 g8 i.typ
  rw [hb1, hb2, hn3, hrv, HP.out.2.2.2.2.2.2]
  clear hb1 hb2 hn3 hrv c0
  have HB3 := Lib.hid (HB2.out.trans (hb.mono HB2.out.size))
  have HX1c := Lib.hid (HX1b.out.below hb HX1b.out.lt)
  have HX2c := Lib.hid (HX2b.out.below hb HX2b.out.lt)
  clear hb HX1b HX2b HB2
  go_upto_region 4 with fail
  have HB4 := Lib.hid (HB3.out.alloc HB3.out.size (.cells #[.bool b1, .bool b2, .int .i64 (n3 : Nat), .func (.func K1) #[] cap1, .func (.func K) #[] #[]] 184))
  have HX1d := Lib.hid (HX1c.out.alloc (.cells #[.bool b1, .bool b2, .int .i64 (n3 : Nat), .func (.func K1) #[] cap1, .func (.func K) #[] #[]] 184))
  have HX2d := Lib.hid (HX2c.out.alloc (.cells #[.bool b1, .bool b2, .int .i64 (n3 : Nat), .func (.func K1) #[] cap1, .func (.func K) #[] #[]] 184))
  have hN := Blk.new W3 184 #[.bool b1, .bool b2, .int .i64 (n3 : Nat), .func (.func K1) #[] cap1, .func (.func K) #[] #[]]
  generalize W3.alloc (.cells #[.bool b1, .bool b2, .int .i64 (n3 : Nat), .func (.func K1) #[] cap1, .func (.func K) #[] #[]] 184) = W4 at *
  have d4 : W4.cell? ⟨W3.heap.size, 4, none⟩ = some (.func (.func K) #[] #[]) := hN.cell 4
  clear hN HX1c HX2c HB3
  go_wp2_with (first
    | (refine wpList_rowGet _ rfl (.tmp 1) 91 rfl W.heap.size 91 _ rfl HX1d.out _ Tryz.underlying91 rfl infSize ?_)
    | fail)
  refine (HW.out W4 HB4.out).mono ?_
  rintro e W5 ⟨A5, m5, c5, rfl, hr5, hb⟩
  have HR5 := Lib.hid hr5
  have HB5 := Lib.hid (HB4.out.trans (hb.mono HB4.out.size))
  have HX1e := Lib.hid (HX1d.out.below hb HX1d.out.lt)
  have HX2e := Lib.hid (HX2d.out.below hb HX2d.out.lt)
  obtain rfl := hr5.1
  clear hb hr5 d4 HX1d HX2d HB4
  go_wp2_with fail
  refine (fcopied_any A5 _ c5 (pay i) W5 W5.heap.size HR5.out (Nat.le_refl _) (by have := HP.out.2.2.2.2.1; omega)).mono ?_
  rintro e W6 ⟨rfl, ho6, hb⟩
  have HO6 := Lib.hid ho6
  have HB6 := Lib.hid (HB5.out.trans (hb.mono HB5.out.size))
  have HX1f := Lib.hid (HX1e.out.below hb HX1e.out.lt)
  have HX2f := Lib.hid (HX2e.out.below hb HX2e.out.lt)
  have HL5 := Lib.hid HB5.out.size
  have HL5b := Lib.hid (show W.heap.size + 1 < W5.heap.size from HX2e.out.lt)
  clear hb ho6 HX1e HX2e HB5 HR5
  have c6 : W6.cell? ⟨W.heap.size, 6, none⟩ = some (.bool i.padded) := HX1f.out.cell 6
  rw [HP.out.2.2.2.2.2.1] at c6
  generalize hg5 : W5.heap.size = g5 at *
  clear hg5
  go_upto_region 7 with fail
  clear c6
  have HXn := Lib.hid (show Blk (W6.drew.alloc (.cells #[.int .i64 0, .int .i64 0, .int .i64 0, .slice none 0 0] 24)) W.heap.size 91 (infC i (.slice S i.sets.length d) (.slice A i.data.length c)) from Blk.alloc (w := W6.drew) HX1f.out _)
  have HNn := Lib.hid (show Blk (W6.drew.alloc (.cells #[.int .i64 0, .int .i64 0, .int .i64 0, .slice none 0 0] 24)) W6.heap.size 24 #[.int .i64 0, .int .i64 0, .int .i64 0, .slice none 0 0] from Blk.new W6.drew _ _)
  have HB6d := Lib.hid (fun (w7 : World) (h : Below W6.drew.heap.size W6.drew w7) => (show Below W6.heap.size W6 (w7.alloc (.cells #[.int .i64 (i.typ : Nat), .int .i64 (flg i : Nat), .int .i64 (i.stream : Nat), .slice (some ⟨g5, 0, none⟩) (pay i).length (pay i).length] 24)) from (below_of_drew h).alloc h.size _))
  have HB6n := Lib.hid (fun (w7 : World) (h : Below (W6.drew.alloc (.cells #[.int .i64 0, .int .i64 0, .int .i64 0, .slice none 0 0] 24)).heap.size (W6.drew.alloc (.cells #[.int .i64 0, .int .i64 0, .int .i64 0, .slice none 0 0] 24)) w7) => (show Below W6.heap.size W6 w7 from (below_of_drew ((Below.refl _ W6.drew).alloc (Nat.le_refl _) (.cells #[.int .i64 0, .int .i64 0, .int .i64 0, .slice none 0 0] 24))).trans (h.mono (by simp))))
  have hne : W.heap.size ≠ W6.heap.size := fun e => by have := HX1f.out.lt; omega
  go_cut [7] from 37 to 44 (fun t7 wx => Hid (∃ g7, t7 = .pointer (some ⟨g7, 0, none⟩) ∧ Below W6.heap.size W6 wx ∧ W6.heap.size ≤ g7 ∧ Blk wx g7 24 #[.int .i64 (i.typ : Nat), .int .i64 (flg i : Nat), .int .i64 (i.stream : Nat), .slice (some ⟨g5, 0, none⟩) (pay i).length (pay i).length]))
  case first =>
    as_aux_lemma =>
      refine wp_region_noPanic ?_
      refine wp_region_held_drew (S := (fun W' => Blk W' W.heap.size 91 (infC i (.slice S i.sets.length d) (.slice A i.data.length c)))) (by kernel_rfl) HX1f.out (fun hHeld => ?_)
      refine wpAnyH_take (i := 0) (oi := { dst := some 37, op := Go.Op.fieldAddr 91 (Operand.tmp 1) 0, type := 0, pos := "frame.go:318", after := #[], guard := none }) (v := ?_) rfl (by kernel_rfl) (by kernel_rfl) (by kernel_rfl) (fun _ _ _ h => h) (Or.inl ⟨by rfl, ?_⟩) hHeld ?_
      rotate_left
      · intro w hSw; (try dsimp only at hSw); (try go_split_ands); go_simp; (first | done | with_reducible rfl)
      (try simp only [Act.put, List.setIfInBounds_toArray, List.set_cons_zero, List.set_cons_succ])
      refine wpAnyH_take (i := 1) (oi := { dst := some 38, op := Go.Op.load 3 (Operand.tmp 37), type := 3, pos := "frame.go:318", after := #[{ on := 0, ground := Ground.data }], guard := none }) (v := .int .i64 (i.typ : Nat)) rfl (by kernel_rfl) (by kernel_rfl) (by kernel_rfl) (fun _ _ _ h => h) (Or.inl ⟨by rfl, ?_⟩) hHeld ?_
      · intro w hSw; have hS0 : w.cell? ⟨W.heap.size, 0, none⟩ = some (.int .i64 (i.typ : Nat)) := hSw.cell 0; go_simp; (first | done | with_reducible rfl)
      (try simp only [Act.put, List.setIfInBounds_toArray, List.set_cons_zero, List.set_cons_succ])
      refine wpAnyH_take (i := 2) (oi := { dst := some 39, op := Go.Op.load 91 (Operand.tmp 1), type := 91, pos := "frame.go:318", after := #[], guard := none }) (v := .agg (infC i (.slice S i.sets.length d) (.slice A i.data.length c))) rfl (by kernel_rfl) (by kernel_rfl) (by kernel_rfl) (fun _ _ _ h => h) (Or.inl ⟨by rfl, ?_⟩) hHeld ?_
      · intro w hSw; have hS0 := load_row hSw; simp [execOp]; change (Result.andThen (Sem.run _ (Instr.loadAt _ (.pointer (some ⟨W.heap.size, 0, none⟩))) w) _) = _; rw [hS0]; rfl
      (try simp only [Act.put, List.setIfInBounds_toArray, List.set_cons_zero, List.set_cons_succ])
      refine wpAnyH_take (i := 4) (oi := { dst := some 41, op := Go.Op.fieldAddr 91 (Operand.tmp 1) 2, type := 0, pos := "frame.go:318", after := #[], guard := none }) (v := ?_) rfl (by kernel_rfl) (by kernel_rfl) (by kernel_rfl) (fun _ _ _ h => h) (Or.inl ⟨by rfl, ?_⟩) hHeld ?_
      rotate_left
      · intro w hSw; (try dsimp only at hSw); (try go_split_ands); go_simp; (first | done | with_reducible rfl)
      (try simp only [Act.put, List.setIfInBounds_toArray, List.set_cons_zero, List.set_cons_succ])
      refine wpAnyH_take (i := 5) (oi := { dst := some 42, op := Go.Op.load 3 (Operand.tmp 41), type := 3, pos := "frame.go:318", after := #[{ on := 4, ground := Ground.data }], guard := none }) (v := .int .i64 (i.stream : Nat)) rfl (by kernel_rfl) (by kernel_rfl) (by kernel_rfl) (fun _ _ _ h => h) (Or.inl ⟨by rfl, ?_⟩) hHeld ?_
      · intro w hSw; have hS0 : w.cell? ⟨W.heap.size, 2, none⟩ = some (.int .i64 (i.stream : Nat)) := hSw.cell 2; go_simp; (first | done | with_reducible rfl)
      (try simp only [Act.put, List.setIfInBounds_toArray, List.set_cons_zero, List.set_cons_succ])
      refine wpAnyH_take (i := 6) (oi := { dst := some 43, op := Op.move (Operand.tmp 6), type := 22, pos := "frame.go:318", after := #[], guard := none }) (v := ?_) rfl (by kernel_rfl) (by kernel_rfl) (by kernel_rfl) (fun _ _ _ h => h) (Or.inl ⟨by rfl, ?_⟩) hHeld ?_
      rotate_left
      · intro w hSw; (try dsimp only at hSw); (try go_split_ands); go_simp; (first | done | with_reducible rfl)
      (try simp only [Act.put, List.setIfInBounds_toArray, List.set_cons_zero, List.set_cons_succ])
      refine wpAnyH_ready (rs := [3, 8]) (by kernel_rfl) (by simp) ?_
      refine AllReadyH.cons (o := { dst := some 40, op := Op.call { callee := Callee.value (Operand.func 103), args := #[Operand.tmp 39], argTypes := #[91] }, type := 3, pos := "frame.go:318", after := #[{ on := 2, ground := Ground.data }], guard := none }) rfl (fun K hK => ?_) (AllReadyH.cons (o := { dst := some 7, op := Go.Op.alloc 24, type := 0, pos := "frame.go:318", after := #[], guard := none }) rfl (fun K hK => ?_) (AllReadyH.nil))
      · go_simp
        go_at_call 103
        refine (flags_any i (.slice S i.sets.length d) (.slice A i.data.length c) _ HF.out.flags).mono ?_
        rintro e w7 ⟨rfl, hb7⟩
        have HX7 := Lib.hid (Blk.below (w := W6.drew) HX1f.out hb7 HX1f.out.lt)
        have HB7 := Lib.hid hb7
        clear hb7
        refine hK.out _ _ HX7.out (fun hHeld2 => ?_)
        clear hHeld
        have hHeld := hHeld2
        clear hHeld2 hK K
        (try simp only [Act.put, List.setIfInBounds_toArray, List.set_cons_zero, List.set_cons_succ])
        refine wpAnyH_take (i := 7) (oi := { dst := some 44, op := Go.Op.build 24 #[(0, Operand.tmp 38), (1, Operand.tmp 40), (2, Operand.tmp 42), (3, Operand.tmp 43)], type := 24, pos := "frame.go:318", after := #[{ on := 1, ground := Ground.data }, { on := 3, ground := Ground.data }, { on := 5, ground := Ground.data }, { on := 6, ground := Ground.data }], guard := none }) (v := ?_) rfl (by kernel_rfl) (by kernel_rfl) (by kernel_rfl) (fun _ _ _ h => h) (Or.inl ⟨by rfl, ?_⟩) hHeld ?_
        rotate_left
        · intro w hSw; (try dsimp only at hSw); (try go_split_ands); go_simp; (first | done | with_reducible rfl)
        (try simp only [Act.put, List.setIfInBounds_toArray, List.set_cons_zero, List.set_cons_succ])
        refine wpAnyH_ready (rs := [8]) (by kernel_rfl) (by simp) ?_
        refine AllReadyH.cons (o := { dst := some 7, op := Go.Op.alloc 24, type := 0, pos := "frame.go:318", after := #[], guard := none }) rfl (fun K hK => ?_) (AllReadyH.nil)
        go_simp
        refine hK.out _ _ (HX7.out.alloc _) (fun hHeld2 => ?_)
        clear hHeld
        have hHeld := hHeld2
        clear hHeld2 hK K
        (try simp only [Act.put, List.setIfInBounds_toArray, List.set_cons_zero, List.set_cons_succ])
        refine wpAnyH_ready (rs := [9]) (by kernel_rfl) (by simp) ?_
        refine AllReadyH.cons (o := { dst := none, op := Go.Op.store 24 (Operand.tmp 7) (Operand.tmp 44), type := 0, pos := "frame.go:318", after := #[{ on := 8, ground := Ground.data }, { on := 7, ground := Ground.data }, { on := 3, ground := Ground.chain }, { on := 0, ground := Ground.phase }, { on := 1, ground := Ground.phase }, { on := 2, ground := Ground.phase }, { on := 3, ground := Ground.phase }, { on := 4, ground := Ground.phase }, { on := 5, ground := Ground.phase }, { on := 6, ground := Ground.phase }, { on := 7, ground := Ground.phase }, { on := 8, ground := Ground.phase }], guard := none }) rfl (fun K hK => ?_) (AllReadyH.nil)
        go_simp
        refine hK.out _ _ (HX7.out.alloc _) (fun hHeld2 => ?_)
        clear hHeld
        have hHeld := hHeld2
        clear hHeld2 hK K
        (try simp only [Act.put, List.setIfInBounds_toArray, List.set_cons_zero, List.set_cons_succ])
        refine wpAnyH_done (by kernel_rfl) ?_ _
        refine NoPanic.normal ?_
        go_wp2_with fail
        go_meet
        exact Lib.hid ⟨_, rfl, HB6d.out _ HB7.out, HB7.out.size, Blk.new _ _ _⟩
      · go_simp
        refine hK.out _ _ HXn.out (fun hHeld2 => ?_)
        clear hHeld
        have hHeld := hHeld2
        clear hHeld2 hK K
        (try simp only [Act.put, List.setIfInBounds_toArray, List.set_cons_zero, List.set_cons_succ])
        refine wpAnyH_ready (rs := [3]) (by kernel_rfl) (by simp) ?_
        refine AllReadyH.cons (o := { dst := some 40, op := Op.call { callee := Callee.value (Operand.func 103), args := #[Operand.tmp 39], argTypes := #[91] }, type := 3, pos := "frame.go:318", after := #[{ on := 2, ground := Ground.data }], guard := none }) rfl (fun K hK => ?_) (AllReadyH.nil)
        go_simp
        go_at_call 103
        refine (flags_any i (.slice S i.sets.length d) (.slice A i.data.length c) _ HF.out.flags).mono ?_
        rintro e w7 ⟨rfl, hb7⟩
        have HX7 := Lib.hid (HXn.out.below hb7 HXn.out.lt)
        have HB7 := Lib.hid hb7
        have HN7 := Lib.hid (HNn.out.below hb7 HNn.out.lt)
        have e0 : w7.cell? ⟨W6.heap.size, 0, none⟩ = _ := HN7.out.cell 0
        have e1 : w7.cell? ⟨W6.heap.size, 1, none⟩ = _ := HN7.out.cell 1
        have e2 : w7.cell? ⟨W6.heap.size, 2, none⟩ = _ := HN7.out.cell 2
        have e3 : w7.cell? ⟨W6.heap.size, 3, none⟩ = _ := HN7.out.cell 3
        have f0 := HN7.out.frozen 0
        have f1 := HN7.out.frozen 1
        have f2 := HN7.out.frozen 2
        have f3 := HN7.out.frozen 3
        simp only [List.getElem?_toArray, List.getElem?_cons_zero, List.getElem?_cons_succ] at e0 e1 e2 e3
        clear hb7
        refine hK.out _ _ HX7.out (fun hHeld2 => ?_)
        clear hHeld
        have hHeld := hHeld2
        clear hHeld2 hK K
        (try simp only [Act.put, List.setIfInBounds_toArray, List.set_cons_zero, List.set_cons_succ])
        refine wpAnyH_take (i := 7) (oi := { dst := some 44, op := Go.Op.build 24 #[(0, Operand.tmp 38), (1, Operand.tmp 40), (2, Operand.tmp 42), (3, Operand.tmp 43)], type := 24, pos := "frame.go:318", after := #[{ on := 1, ground := Ground.data }, { on := 3, ground := Ground.data }, { on := 5, ground := Ground.data }, { on := 6, ground := Ground.data }], guard := none }) (v := ?_) rfl (by kernel_rfl) (by kernel_rfl) (by kernel_rfl) (fun _ _ _ h => h) (Or.inl ⟨by rfl, ?_⟩) hHeld ?_
        rotate_left
        · intro w hSw; (try dsimp only at hSw); (try go_split_ands); go_simp; (first | done | with_reducible rfl)
        (try simp only [Act.put, List.setIfInBounds_toArray, List.set_cons_zero, List.set_cons_succ])
        refine wpAnyH_ready (rs := [9]) (by kernel_rfl) (by simp) ?_
        refine AllReadyH.cons (o := { dst := none, op := Go.Op.store 24 (Operand.tmp 7) (Operand.tmp 44), type := 0, pos := "frame.go:318", after := #[{ on := 8, ground := Ground.data }, { on := 7, ground := Ground.data }, { on := 3, ground := Ground.chain }, { on := 0, ground := Ground.phase }, { on := 1, ground := Ground.phase }, { on := 2, ground := Ground.phase }, { on := 3, ground := Ground.phase }, { on := 4, ground := Ground.phase }, { on := 5, ground := Ground.phase }, { on := 6, ground := Ground.phase }, { on := 7, ground := Ground.phase }, { on := 8, ground := Ground.phase }], guard := none }) rfl (fun K hK => ?_) (AllReadyH.nil)
        go_simp
        refine hK.out _ _ (((((HX7.out.far hne _).far hne _).far hne _).far hne _)) (fun hHeld2 => ?_)
        clear hHeld
        have hHeld := hHeld2
        clear hHeld2 hK K
        (try simp only [Act.put, List.setIfInBounds_toArray, List.set_cons_zero, List.set_cons_succ])
        refine wpAnyH_done (by kernel_rfl) ?_ _
        refine NoPanic.normal ?_
        go_wp2_with fail
        go_meet
        exact Lib.hid ⟨_, rfl, below_four (HB6n.out _ HB7.out) (Nat.le_refl _) _ _ _ _, Nat.le_refl _, Blk.four_put HN7.out rfl _ _ _ _⟩
  case rest =>
    obtain ⟨g7, rfl, hb, hg7, hx7⟩ := hcut.out
    have HB8 := Lib.hid (HB6.out.trans (hb.mono HB6.out.size))
    have HX1h := Lib.hid (HX1f.out.below hb HX1f.out.lt)
    have HX2h := Lib.hid (HX2f.out.below hb HX2f.out.lt)
    have HO8 := Lib.hid (HO6.out.below hb (fun g e => (HO6.out.lt e).1))
    have HX7 := Lib.hid hx7
    have HG7 := Lib.hid (show W.heap.size + 1 < W6.heap.size from HX2f.out.lt)
    have HH7 := Lib.hid hg7
    have e0 : wc.cell? ⟨g7, 0, none⟩ = _ := hx7.cell 0
    have e1 : wc.cell? ⟨g7, 1, none⟩ = _ := hx7.cell 1
    have e2 : wc.cell? ⟨g7, 2, none⟩ = _ := hx7.cell 2
    have e3 : wc.cell? ⟨g7, 3, none⟩ = _ := hx7.cell 3
    simp only [List.getElem?_toArray, List.getElem?_cons_zero, List.getElem?_cons_succ] at e0 e1 e2 e3
    clear hcut hb hg7 hx7 HXn HNn HB6d HB6n hne HX1f HX2f HB6 HO6
    go_wp2_with fail
    refine (open_more i.typ (flg i) i.stream (some ⟨g5, 0, none⟩) (pay i).length (pay i).length wc.heap.size (pay i) wc HO8.out.rd (Nat.le_refl _) (Nat.le_refl _) HP.out.2.2.2.2.1 HF.out.typ HP.out.2.2.1 HF.out.stream HP.out.1 HP.out.2.1).mono ?_
    rintro e W9 ⟨hb, hm⟩
    rw [HP.out.2.2.2.1] at hm
    obtain ⟨sv2, dv2, rfl, hsv, hdv⟩ := hm
    obtain ⟨S2, d2, rfl, _, _⟩ := hsv.form
    obtain ⟨A2, c2, rfl, hc2, _, _⟩ := hdv.form
    have HB9 := Lib.hid (HB8.out.trans (hb.mono HB8.out.size))
    have HX1i := Lib.hid (HX1h.out.below hb HX1h.out.lt)
    have HX2i := Lib.hid (HX2h.out.below hb HX2h.out.lt)
    have HX7i := Lib.hid (HX7.out.below hb HX7.out.lt)
    have HO9 := Lib.hid (HO8.out.below hb (fun g e => (HO8.out.lt e).1))
    have HSv := Lib.hid (SetR.of_own hsv)
    have HDv := Lib.hid hdv.rd
    clear hb hsv hdv e0 e1 e2 e3 HX1h HX2h HX7 HO8 HB8
    go_wp2_with (first
      | (refine wpList_rowPut _ rfl (.tmp 8) (.tmp 48) 91 rfl W9.heap.size 91 (infC {} (.slice none 0 0) (.slice none 0 0)) (infC i (.slice S2 i.sets.length d2) (.slice A2 i.data.length c2)) rfl rfl (Blk.new W9 91 _) infSize rfl (infC_one _ _ _ _ _ _ _) ?_
         intro w10 hb10 hg10
         have hbl := (show Below W9.heap.size W9 w10 from ((Below.refl W9.heap.size W9).alloc (Nat.le_refl _) (.cells (infC {} (.slice none 0 0) (.slice none 0 0)) 91)).grown hg10 (by simp) (fun j e => by injection e with e; omega))
         have HBl := Lib.hid hbl
         have HX8 := Lib.hid hb10
         have HX1j := Lib.hid (HX1i.out.below hbl HX1i.out.lt)
         have HX2j := Lib.hid (HX2i.out.below hbl HX2i.out.lt)
         have HX7j := Lib.hid (HX7i.out.below hbl HX7i.out.lt)
         have HO10 := Lib.hid (HO9.out.below hbl (fun g e => (HO9.out.lt e).1))
         have HB10 := Lib.hid (HB9.out.trans (hbl.mono HB9.out.size))
         clear hb10 hg10 hbl)
      | (refine wpList_rowGetW _ rfl (.tmp 8) 91 rfl W9.heap.size 91 _ rfl HX8.out _ Tryz.underlying91 rfl infSize ?_)
      | (refine wpList_rowGetW _ rfl (.tmp 1) 91 rfl W.heap.size 91 _ rfl HX1j.out _ Tryz.underlying91 rfl infSize ?_)
      | (go_at_call 105
         refine (same_any i (.slice S2 i.sets.length d2) (.slice S i.sets.length d) A2 A i.data.length c2 c W9.heap.size W.heap.size _ (HSv.out.below HBl.out) (HSr.out.below HB10.out) (HDv.out.below HBl.out) (HR.out.below HB10.out) HBl.out.size HB10.out.size HF.out.few).mono ?_
         rintro e W11 ⟨rfl, hb⟩
         have HX2k := Lib.hid (HX2j.out.below hb HX2j.out.lt)
         have HX7k := Lib.hid (HX7j.out.below hb HX7j.out.lt)
         have HO11 := Lib.hid (HO10.out.below hb (fun g e => (HO10.out.lt e).1))
         have HB11 := Lib.hid (HB10.out.trans (hb.mono HB10.out.size))
         have e0 : W11.cell? ⟨g7, 0, none⟩ = _ := HX7k.out.cell 0
         have e1 : W11.cell? ⟨g7, 1, none⟩ = _ := HX7k.out.cell 1
         have e2 : W11.cell? ⟨g7, 2, none⟩ = _ := HX7k.out.cell 2
         have e3 : W11.cell? ⟨g7, 3, none⟩ = _ := HX7k.out.cell 3
         have k0 : W11.cell? ⟨W.heap.size + 1, 0, none⟩ = _ := HX2k.out.cell 0
         have k1 : W11.cell? ⟨W.heap.size + 1, 1, none⟩ = _ := HX2k.out.cell 1
         have k2 : W11.cell? ⟨W.heap.size + 1, 2, none⟩ = _ := HX2k.out.cell 2
         have k3 : W11.cell? ⟨W.heap.size + 1, 3, none⟩ = _ := HX2k.out.cell 3
         have q0 := HX2k.out.frozen 0
         have q1 := HX2k.out.frozen 1
         have q2 := HX2k.out.frozen 2
         have q3 := HX2k.out.frozen 3
         simp only [List.getElem?_toArray, List.getElem?_cons_zero, List.getElem?_cons_succ] at e0 e1 e2 e3 k0 k1 k2 k3
         clear hb)
      | fail)
    refine bodyPost_ret (results_build _ _ (W.heap.size + 1) _ _ _ _ _ rfl rfl (Blk.four_put HX2k.out rfl _ _ _ _)) rfl ⟨_, _, rfl, ?_, below_four HB11.out (by omega) _ _ _ _⟩
    exact (HO11.out.grown (grown_four W11 (W.heap.size + 1) _ _ _ _) (.inr fun e => by have e : some g5 = some (W.heap.size + 1) := e; injection e with e; have := HL5b.out; omega)).base HL5.out
end Go.Proofs.YtkpppjhbmnfmkaaGreatDoor
