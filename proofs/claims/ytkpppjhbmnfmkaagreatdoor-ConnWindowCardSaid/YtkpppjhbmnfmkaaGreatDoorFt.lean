/-
  Contracts: frame.exactly, types: the table of what the payloads of all types say.
-/
import Derived.Test.YtkpppjhbmnfmkaaGreatDoorFa
import Derived.Test.YtkpppjhbmnfmkaaGreatDoorJa
import Derived.Deep.DeepCutAuto
set_option linter.unusedSimpArgs false
set_option linter.unusedVariables false
namespace Go.Proofs.YtkpppjhbmnfmkaaGreatDoor
open Go.RowKit Go.Own Go.Own.Fr Go.Own.Im
/-- The captured variables. -/
def ExC (w : World) (g : Nat) (n : Int) (f : Value) : Prop := Blk w g 3 #[.int .i64 n] ∧ Blk w (g + 1) 181 #[f]
theorem ExC.below {w w' : World} {g : Nat} {n : Int} {f : Value} (h : ExC w g n f) (hb : Below w.heap.size w w') : ExC w' g n f := ⟨h.1.below hb h.1.lt, h.2.below hb h.2.lt⟩
theorem ExC.grown {w w' : World} {g r : Nat} {n : Int} {f : Value} (h : ExC w g n f) (hb : w.grownBy w' (some r)) (hr : r < g) : ExC w' g n f := ⟨h.1.grown hb (by intro e; injection e with e; omega), h.2.grown hb (by intro e; injection e with e; omega)⟩
theorem ExC.box {w : World} {g : Nat} {n : Int} {f : Value} (h : ExC w g n f) (o o' : Obj) : ExC ((w.alloc o).alloc o') g n f := ⟨(h.1.alloc o).alloc o', (h.2.alloc o).alloc o'⟩
/-- What the table has. -/
def rowsF (g3 g6 g8 : Nat) (k : Int) : Option Value :=
  if k = 9 then some (.agg #[.bool false, .bool true, .int .i64 4, (.func (.func 175) #[] #[]), (.func (.func 176) #[] #[])]) else
  if k = 8 then some (.agg #[.bool true, .bool true, .int .i64 0, (.func (.func 215) #[] #[.pointer (some ⟨g8, 0, none⟩), .pointer (some ⟨g8 + 1, 0, none⟩)]), (.func (.func 192) #[] #[])]) else
  if k = 7 then some (.agg #[.bool true, .bool false, .int .i64 0, (.func (.func 189) #[] #[]), (.func (.func 190) #[] #[])]) else
  if k = 6 then some (.agg #[.bool true, .bool false, .int .i64 1, (.func (.func 215) #[] #[.pointer (some ⟨g6, 0, none⟩), .pointer (some ⟨g6 + 1, 0, none⟩)]), (.func (.func 176) #[] #[])]) else
  if k = 5 then some (.agg #[.bool false, .bool true, .int .i64 12, (.func (.func 187) #[] #[]), (.func (.func 188) #[] #[])]) else
  if k = 4 then some (.agg #[.bool true, .bool false, .int .i64 1, (.func (.func 185) #[] #[]), (.func (.func 186) #[] #[])]) else
  if k = 3 then some (.agg #[.bool false, .bool true, .int .i64 0, (.func (.func 215) #[] #[.pointer (some ⟨g3, 0, none⟩), .pointer (some ⟨g3 + 1, 0, none⟩)]), (.func (.func 184) #[] #[])]) else
  if k = 2 then some (.agg #[.bool false, .bool true, .int .i64 0, (.func (.func 181) #[] #[]), (.func (.func 180) #[] #[])]) else
  if k = 1 then some (.agg #[.bool false, .bool true, .int .i64 45, (.func (.func 177) #[] #[]), (.func (.func 179) #[] #[])]) else
  if k = 0 then some (.agg #[.bool false, .bool true, .int .i64 9, (.func (.func 175) #[] #[]), (.func (.func 176) #[] #[])]) else
  none
set_option maxRecDepth 100000 in
theorem exactly_any (n : Int) (k : Nat) (w : World) : Calls Tryz.prog 182 #[.int .i64 n, .func (.func k) #[] #[]] w fun e w' => e = .returned (.func (.func 215) #[] #[.pointer (some ⟨w.heap.size, 0, none⟩), .pointer (some ⟨w.heap.size + 1, 0, none⟩)]) ∧ w' = (w.alloc (.cells #[.int .i64 n] 3)).alloc (.cells #[.func (.func k) #[] #[]] 181) := by
  have hmf : ∀ (fn : Fn) (first cap : Array Value) (w : World), (Instr.makeFunc fn first cap).run Tryz.prog w = .ok (.func fn first cap) w := fun _ _ _ _ => rfl
  go_enter Tryz.func182, Tryz.ntmps182
  go_wp2
  go_ret
  exact ⟨rfl, rfl⟩
theorem exC_new (w : World) (n : Int) (f : Value) : ExC ((w.alloc (.cells #[.int .i64 n] 3)).alloc (.cells #[f] 181)) w.heap.size n f :=
  ⟨(Blk.new w 3 #[.int .i64 n]).alloc _, by
    have h := Blk.new (w.alloc (.cells #[.int .i64 n] 3)) 181 #[f]
    rw [show (w.alloc (.cells #[.int .i64 n] 3)).heap.size = w.heap.size + 1 by simp] at h
    exact h⟩
/-- The table as types makes it. -/
def TyPost (w : World) (e : Ending) (w' : World) : Prop :=
  ∃ g3 g6 g8 : Nat, e = .returned (.map (some w.heap.size)) ∧ HM Tryz.prog 3 w' w.heap.size 10 (rowsF g3 g6 g8) ∧ ExC w' g3 4 (.func (.func 183) #[] #[]) ∧ ExC w' g6 8 (.func (.func 175) #[] #[]) ∧ ExC w' g8 4 (.func (.func 191) #[] #[]) ∧ Below w.heap.size w w'
set_option maxHeartbeats 8000000 in
set_option maxRecDepth 100000 in
theorem types_any (w : World) : Calls Tryz.prog 143 #[] w (TyPost w) := by
  have hmk := fun W => run_mkMap (P := Tryz.prog) 216 W
  have HMs := Lib.hid (HM.made Tryz.prog 3 w)
  have HBs := Lib.hid ((Below.refl w.heap.size w).alloc (Nat.le_refl _) (.map #[] 0))
  have HG := Lib.hid (show w.heap.size < (w.alloc (.map #[] 0)).heap.size by simp)
  go_enter Tryz.func143, Tryz.ntmps143
  go_upto_region 1 with fail
  go_wp2_with (first
    | (with_reducible refine wpList_put _ rfl (.tmp 1) (.const (.int .i64 0)) (.tmp 2) 216 (.inl rfl) Tryz.underlying216 Tryz.underlying3 w.heap.size 0 _ rfl HMs.out ?_ 0 ?_ rfl (.agg #[.bool false, .bool true, .int .i64 9, (.func (.func 175) #[] #[]), (.func (.func 176) #[] #[])]) rfl ?_
       · simp only [maxLen]; omega
       · decide
       intro w0 hm hg
       have HM0 := Lib.hid hm
       have HB0 := Lib.hid (HBs.out.grown hg HBs.out.size (fun j e => by injection e with e; omega))
       clear hm hg HMs)
    | (with_reducible refine wpList_put _ rfl (.tmp 1) (.const (.int .i64 1)) (.tmp 3) 216 (.inl rfl) Tryz.underlying216 Tryz.underlying3 w.heap.size 1 _ rfl HM0.out ?_ 1 ?_ rfl (.agg #[.bool false, .bool true, .int .i64 45, (.func (.func 177) #[] #[]), (.func (.func 179) #[] #[])]) rfl ?_
       · simp only [maxLen]; omega
       · decide
       intro w1 hm hg
       have HM1 := Lib.hid hm
       have HB1 := Lib.hid (HB0.out.grown hg HB0.out.size (fun j e => by injection e with e; omega))
       clear hm hg HM0)
    | (with_reducible refine wpList_put _ rfl (.tmp 1) (.const (.int .i64 2)) (.tmp 4) 216 (.inl rfl) Tryz.underlying216 Tryz.underlying3 w.heap.size 2 _ rfl HM1.out ?_ 2 ?_ rfl (.agg #[.bool false, .bool true, .int .i64 0, (.func (.func 181) #[] #[]), (.func (.func 180) #[] #[])]) rfl ?_
       · simp only [maxLen]; omega
       · decide
       intro w2 hm hg
       have HM2 := Lib.hid hm
       have HB2 := Lib.hid (HB1.out.grown hg HB1.out.size (fun j e => by injection e with e; omega))
       have HK3 := Lib.hid (show True from trivial)
       clear hm hg HM1)
    | (go_at_call 182
       have _t := HK3
       refine (exactly_any 4 183 _).mono ?_
       rintro e w30 ⟨rfl, hw⟩
       have HC3 := Lib.hid (exC_new w2 4 (.func (.func 183) #[] #[]))
       have HM3x := Lib.hid ((HM2.out.alloc (.cells #[.int .i64 4] 3)).alloc (.cells #[(.func (.func 183) #[] #[])] 181))
       have HB3x := Lib.hid ((HB2.out.alloc HB2.out.size (.cells #[.int .i64 4] 3)).alloc (Nat.le_trans HB2.out.size (by simp)) (.cells #[(.func (.func 183) #[] #[])] 181))
       have HL3 := Lib.hid (show w.heap.size < w2.heap.size from HM2.out.lt)
       rw [← hw] at HC3 HM3x HB3x
       clear hw HK3)
    | (with_reducible refine wpList_put _ rfl (.tmp 1) (.const (.int .i64 3)) (.tmp 6) 216 (.inl rfl) Tryz.underlying216 Tryz.underlying3 w.heap.size 3 _ rfl HM3x.out ?_ 3 ?_ rfl (.agg #[.bool false, .bool true, .int .i64 0, (.func (.func 215) #[] #[.pointer (some ⟨w2.heap.size, 0, none⟩), .pointer (some ⟨w2.heap.size + 1, 0, none⟩)]), (.func (.func 184) #[] #[])]) rfl ?_
       · simp only [maxLen]; omega
       · decide
       intro w3 hm hg
       have HM3 := Lib.hid hm
       have HB3 := Lib.hid (HB3x.out.grown hg HB3x.out.size (fun j e => by injection e with e; omega))
       have HC3 := Lib.hid (HC3.out.grown hg HL3.out)
       clear hm hg HM3x)
    | (with_reducible refine wpList_put _ rfl (.tmp 1) (.const (.int .i64 4)) (.tmp 7) 216 (.inl rfl) Tryz.underlying216 Tryz.underlying3 w.heap.size 4 _ rfl HM3.out ?_ 4 ?_ rfl (.agg #[.bool true, .bool false, .int .i64 1, (.func (.func 185) #[] #[]), (.func (.func 186) #[] #[])]) rfl ?_
       · simp only [maxLen]; omega
       · decide
       intro w4 hm hg
       have HM4 := Lib.hid hm
       have HB4 := Lib.hid (HB3.out.grown hg HB3.out.size (fun j e => by injection e with e; omega))
       have HC3 := Lib.hid (HC3.out.grown hg HL3.out)
       clear hm hg HM3)
    | (with_reducible refine wpList_put _ rfl (.tmp 1) (.const (.int .i64 5)) (.tmp 8) 216 (.inl rfl) Tryz.underlying216 Tryz.underlying3 w.heap.size 5 _ rfl HM4.out ?_ 5 ?_ rfl (.agg #[.bool false, .bool true, .int .i64 12, (.func (.func 187) #[] #[]), (.func (.func 188) #[] #[])]) rfl ?_
       · simp only [maxLen]; omega
       · decide
       intro w5 hm hg
       have HM5 := Lib.hid hm
       have HB5 := Lib.hid (HB4.out.grown hg HB4.out.size (fun j e => by injection e with e; omega))
       have HC3 := Lib.hid (HC3.out.grown hg HL3.out)
       have HK6 := Lib.hid (show True from trivial)
       clear hm hg HM4)
    | (go_at_call 182
       have _t := HK6
       refine (exactly_any 8 175 _).mono ?_
       rintro e w60 ⟨rfl, hw⟩
       have HC6 := Lib.hid (exC_new w5 8 (.func (.func 175) #[] #[]))
       have HC3 := Lib.hid (HC3.out.box (.cells #[.int .i64 8] 3) (.cells #[(.func (.func 175) #[] #[])] 181))
       have HM6x := Lib.hid ((HM5.out.alloc (.cells #[.int .i64 8] 3)).alloc (.cells #[(.func (.func 175) #[] #[])] 181))
       have HB6x := Lib.hid ((HB5.out.alloc HB5.out.size (.cells #[.int .i64 8] 3)).alloc (Nat.le_trans HB5.out.size (by simp)) (.cells #[(.func (.func 175) #[] #[])] 181))
       have HL6 := Lib.hid (show w.heap.size < w5.heap.size from HM5.out.lt)
       rw [← hw] at HC6 HM6x HB6x HC3
       clear hw HK6)
    | (with_reducible refine wpList_put _ rfl (.tmp 1) (.const (.int .i64 6)) (.tmp 10) 216 (.inl rfl) Tryz.underlying216 Tryz.underlying3 w.heap.size 6 _ rfl HM6x.out ?_ 6 ?_ rfl (.agg #[.bool true, .bool false, .int .i64 1, (.func (.func 215) #[] #[.pointer (some ⟨w5.heap.size, 0, none⟩), .pointer (some ⟨w5.heap.size + 1, 0, none⟩)]), (.func (.func 176) #[] #[])]) rfl ?_
       · simp only [maxLen]; omega
       · decide
       intro w6 hm hg
       have HM6 := Lib.hid hm
       have HB6 := Lib.hid (HB6x.out.grown hg HB6x.out.size (fun j e => by injection e with e; omega))
       have HC3 := Lib.hid (HC3.out.grown hg HL3.out)
       have HC6 := Lib.hid (HC6.out.grown hg HL6.out)
       clear hm hg HM6x)
    | (with_reducible refine wpList_put _ rfl (.tmp 1) (.const (.int .i64 7)) (.tmp 11) 216 (.inl rfl) Tryz.underlying216 Tryz.underlying3 w.heap.size 7 _ rfl HM6.out ?_ 7 ?_ rfl (.agg #[.bool true, .bool false, .int .i64 0, (.func (.func 189) #[] #[]), (.func (.func 190) #[] #[])]) rfl ?_
       · simp only [maxLen]; omega
       · decide
       intro w7 hm hg
       have HM7 := Lib.hid hm
       have HB7 := Lib.hid (HB6.out.grown hg HB6.out.size (fun j e => by injection e with e; omega))
       have HC3 := Lib.hid (HC3.out.grown hg HL3.out)
       have HC6 := Lib.hid (HC6.out.grown hg HL6.out)
       have HK8 := Lib.hid (show True from trivial)
       clear hm hg HM6)
    | (go_at_call 182
       have _t := HK8
       refine (exactly_any 4 191 _).mono ?_
       rintro e w80 ⟨rfl, hw⟩
       have HC8 := Lib.hid (exC_new w7 4 (.func (.func 191) #[] #[]))
       have HC3 := Lib.hid (HC3.out.box (.cells #[.int .i64 4] 3) (.cells #[(.func (.func 191) #[] #[])] 181))
       have HC6 := Lib.hid (HC6.out.box (.cells #[.int .i64 4] 3) (.cells #[(.func (.func 191) #[] #[])] 181))
       have HM8x := Lib.hid ((HM7.out.alloc (.cells #[.int .i64 4] 3)).alloc (.cells #[(.func (.func 191) #[] #[])] 181))
       have HB8x := Lib.hid ((HB7.out.alloc HB7.out.size (.cells #[.int .i64 4] 3)).alloc (Nat.le_trans HB7.out.size (by simp)) (.cells #[(.func (.func 191) #[] #[])] 181))
       have HL8 := Lib.hid (show w.heap.size < w7.heap.size from HM7.out.lt)
       rw [← hw] at HC8 HM8x HB8x HC3 HC6
       clear hw HK8)
    | (with_reducible refine wpList_put _ rfl (.tmp 1) (.const (.int .i64 8)) (.tmp 13) 216 (.inl rfl) Tryz.underlying216 Tryz.underlying3 w.heap.size 8 _ rfl HM8x.out ?_ 8 ?_ rfl (.agg #[.bool true, .bool true, .int .i64 0, (.func (.func 215) #[] #[.pointer (some ⟨w7.heap.size, 0, none⟩), .pointer (some ⟨w7.heap.size + 1, 0, none⟩)]), (.func (.func 192) #[] #[])]) rfl ?_
       · simp only [maxLen]; omega
       · decide
       intro w8 hm hg
       have HM8 := Lib.hid hm
       have HB8 := Lib.hid (HB8x.out.grown hg HB8x.out.size (fun j e => by injection e with e; omega))
       have HC3 := Lib.hid (HC3.out.grown hg HL3.out)
       have HC6 := Lib.hid (HC6.out.grown hg HL6.out)
       have HC8 := Lib.hid (HC8.out.grown hg HL8.out)
       clear hm hg HM8x)
    | (with_reducible refine wpList_put _ rfl (.tmp 1) (.const (.int .i64 9)) (.tmp 14) 216 (.inl rfl) Tryz.underlying216 Tryz.underlying3 w.heap.size 9 _ rfl HM8.out ?_ 9 ?_ rfl (.agg #[.bool false, .bool true, .int .i64 4, (.func (.func 175) #[] #[]), (.func (.func 176) #[] #[])]) rfl ?_
       · simp only [maxLen]; omega
       · decide
       intro w9 hm hg
       have HM9 := Lib.hid hm
       have HB9 := Lib.hid (HB8.out.grown hg HB8.out.size (fun j e => by injection e with e; omega))
       have HC3 := Lib.hid (HC3.out.grown hg HL3.out)
       have HC6 := Lib.hid (HC6.out.grown hg HL6.out)
       have HC8 := Lib.hid (HC8.out.grown hg HL8.out)
       clear hm hg HM8)
    | fail)
  go_ret
  exact ⟨w2.heap.size, w5.heap.size, w7.heap.size, rfl, HM9.out, HC3.out, HC6.out, HC8.out, HB9.out⟩
end Go.Proofs.YtkpppjhbmnfmkaaGreatDoor
