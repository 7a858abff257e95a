/-
  Contract: conn.New.
-/
import Derived.Test.YtkpppjhbmnfmkaaGreatDoorJh
import Derived.Test.YtkpppjhbmnfmkaaGreatDoorJg
set_option linter.unusedSimpArgs false
set_option linter.unusedVariables false
namespace Go.Proofs.YtkpppjhbmnfmkaaGreatDoor
open Go.RowKit Go.Own Go.Own.Im Go.Own.Cx Go.Own.Fr
/-- What an end says first. -/
def firstSet (side cs : Nat) : Nat × Nat := if side = 1 then (2, 0) else (3, cs)
def newM0 (side cw cs : Nat) : Cv := { side := side, cw := cw, cs := cs, preface := if side = 1 then 24 else 0, out := if side = 1 then prefB else [] }
def newM (side cw cs : Nat) : Cv := { newM0 side cw cs with out := (newM0 side cw cs).out ++ frameB 4 0 0 (setB [firstSet side cs, (4, cw), (6, 16384)]) }
theorem Tab0.tabS {w w' : World} {g : Nat} {own : Nat → Prop} (h : Tab0 w g) (hk : ∀ j, (j = g ∨ j + 1 = g) → w'.heap[j]? = w.heap[j]?) (ho : own g) (ho2 : ∀ r, g = r + 1 → own r) : TabS w' own g [] 4096 := by
  obtain ⟨r, cs, h0, h1, h2, h3⟩ := h
  refine ⟨r, 0, cs, (hk g (.inl rfl)).trans h1, (hk r (.inr h0.symm)).trans h2, ho, ho2 r h0, h3.1, by omega, by simp [hszs], by omega, fun k h hk => by simp at hk, fun j hj => ⟨⟨⟨#[]⟩, ⟨#[]⟩, false⟩, h3.2 j hj⟩⟩
/-- Who owns what of a new end, whose blocks begin at n. -/
def ow0 (n p : Nat) : Nat → Tg := fun g => if g = n + 1 then .map else if g = n + 2 then .cn else if g = n + 3 then .inw else if g = n + 4 then .outw else if g = n + 5 ∨ g = n + 6 ∨ g = n + 7 then .enc else if g = n + 8 ∨ g = n + 9 ∨ g = n + 10 then .dec else if g = p ∧ n + 11 < p then .out else .no
theorem infC_sets (l : List (Nat × Nat)) (v : Value) : infC { typ := 4, sets := l } v (.slice none 0 0) = #[.int .i64 4, .int .i64 0, .int .i64 0, .bool false, .bool false, .bool false, .bool false, .bool false, .bool false, .int .i64 0, .int .i64 0, .int .i64 0, .int .i64 0, .int .i64 0, .int .i64 0, .int .i64 0, v, .slice none 0 0] := rfl
theorem _root_.Go.Own.Rd.other {w w' : World} {B n g o : Nat} {l : List UInt8} (h : Rd w B (some ⟨g, o, none⟩) n l) (hh : w'.heap[g]? = w.heap[g]?) : Rd w' B (some ⟨g, o, none⟩) n l :=
  ⟨h.1, fun hn => by
    obtain ⟨ad, e, hb, hc⟩ := h.2 hn
    injection e with e
    subst e
    exact ⟨_, rfl, hb, fun j hj => (World.cell?_of_block (a := Addr.add ⟨g, o, none⟩ j) (by rw [add_block]; exact hh)).trans (hc j hj)⟩⟩
theorem new_cn {W1 W3 W5 W7 W : World} (n b p side cw cs : Nat) (outv : Value) (hb : n + 2 = b) (g1 : W1.grownBy W (some b)) (hm : SM Tryz.prog 3 W1 (n + 1) [] (fun _ => .pointer none))
    (g3 : W3.grownBy W (some b)) (hi : Blk W3 (n + 3) 177 #[.int .i64 65535]) (ho : Blk W3 (n + 4) 177 #[.int .i64 65535])
    (g5 : W5.grownBy W (some b)) (he : Blk W5 (n + 5 + 2) 135 #[.pointer (some ⟨n + 5 + 1, 0, none⟩), .int .i64 0, .bool false]) (hte : Tab0 W5 (n + 5 + 1))
    (g7 : W7.grownBy W (some b)) (hd : Blk W7 (n + 8 + 2) 137 #[.pointer (some ⟨n + 8 + 1, 0, none⟩), .int .i64 4096, .bool false]) (htd : Tab0 W7 (n + 8 + 1))
    (hx : Blk W b 80 (cnC (newM0 side cw cs) { out := outv, ib := n + 3, ob := n + 4, mb := n + 1, enc := n + 5 + 2, dec := n + 8 + 2 })) (hout : Oz W (fun g => ow0 n p g = .out) outv (newM0 side cw cs).out) (hsz : n + 11 ≤ W.heap.size) (hp : p < W.heap.size) :
    CN W (ow0 n p) b (newM0 side cw cs) { out := outv, ib := n + 3, ob := n + 4, mb := n + 1, enc := n + 5 + 2, dec := n + 8 + 2 } := by
  subst hb
  have htl : ∀ {W0 : World} {g : Nat}, Tab0 W0 g → g < W0.heap.size ∧ ∀ r, g = r + 1 → r < W0.heap.size := fun h => by
    obtain ⟨r, cs, h0, h1, h2, _⟩ := h
    exact ⟨h1.lt, fun r' e => by have := h2.lt; omega⟩
  have bl : ∀ {W0 : World}, W0.grownBy W (some (n + 2)) → ∀ j, j < W0.heap.size → j ≠ n + 2 → W.heap[j]? = W0.heap[j]? := fun h j hj hn => h.block j hj (fun e => hn (by injection e))
  refine ⟨hx, by simp [ow0], ⟨Oz.nil _ _, hout, ⟨Cm.Ew.nil _ _ _ _ _, fun g e => by simp [Value.ownBlock] at e, fun e h => by cases h⟩, (bl g3 _ hi.lt (by omega)).trans hi, by simp [ow0], (bl g3 _ ho.lt (by omega)).trans ho, by simp [ow0],
    (hm.keep (bl g1 _ hm.lt (by omega))).same (fun i hi => by cases hi), by simp [ow0], fun s h => (by cases h), rfl, ?_, ?_⟩, fun g hg => ?_⟩
  · refine ⟨n + 5 + 1, 0, [], 4096, (bl g5 _ he.lt (by omega)).trans he, by simp [ow0], by omega, hte.tabS (fun j hj => ?_) (by simp [ow0]) (fun r hr => by rw [show r = n + 5 by omega]; simp [ow0])⟩
    rcases hj with rfl | hj
    · exact bl g5 _ (htl hte).1 (by omega)
    · exact bl g5 _ ((htl hte).2 j hj.symm) (by omega)
  · refine ⟨n + 8 + 1, [], 4096, (bl g7 _ hd.lt (by omega)).trans hd, by simp [ow0], htd.tabS (fun j hj => ?_) (by simp [ow0]) (fun r hr => by rw [show r = n + 8 by omega]; simp [ow0])⟩
    rcases hj with rfl | hj
    · exact bl g7 _ (htl htd).1 (by omega)
    · exact bl g7 _ ((htl htd).2 j hj.symm) (by omega)
  · unfold ow0
    rw [if_neg (by omega), if_neg (by omega), if_neg (by omega), if_neg (by omega), if_neg (by omega), if_neg (by omega), if_neg (by omega)]
theorem zero_strm (w : World) : (zeroValue 93).run Tryz.prog w = .ok (.pointer none) w := by kernel_rfl
set_option maxHeartbeats 8000000 in
set_option maxRecDepth 100000 in
theorem new1_any (w : World) (cw cs : Nat) (hw : cw ≤ 2147483647) (hs : cs ≤ 100) :
    Calls Tryz.prog 9 #[.int .i64 1, .agg #[.int .i64 (cw : Nat), .int .i64 (cs : Nat)]] w fun e w' => ∃ b ow L, e = .returned (.tuple #[.pointer (some ⟨b, 0, none⟩), .nilIface]) ∧ CN w' ow b (newM 1 cw cs) L ∧ Below w.heap.size w w' ∧ (∀ g, g < w.heap.size → ow g = .no) := by
  have HW := Lib.hid hw
  have HSs := Lib.hid hs
  have k1 : ((2147483647 : Int) < (cw : Int)) = False := by simp; omega
  have k2 : ((100 : Int) < (cs : Int)) = False := by simp; omega
  have k0 : ((cw : Int) < 0) = False := by simp
  have k3 : ((cs : Int) < 0) = False := by simp
  have hmk := fun W => run_mkMap (P := Tryz.prog) 74 W
  clear hw hs
  go_enter Tryz.func9, Tryz.ntmps9
  go_upto_region 6 with fail
  have hsm := ((SM.made Tryz.prog 3 (w.alloc (.cells #[.int .i64 (cw : Nat), .int .i64 (cs : Nat)] 32)) (fun _ => .pointer none)).keep (Below.heap_alloc _ (.cells #[.int .i64 1, .int .i64 (cw : Nat), .int .i64 (cs : Nat), .slice none 0 0, .bool false, .int .i64 0, .slice none 0 0, .slice none 0 0, .pointer none, .pointer none, .int .i64 65535, .int .i64 65535, .int .i64 2147483647, .bool false, .int .i64 0, .map (some (w.heap.size + 1)), .pointer none, .bool false, .bool false, .bool false, .int .i64 0, .pointer none, .pointer none] 80) _ (by simp)))
  rw [show (w.alloc (.cells #[.int .i64 (cw : Nat), .int .i64 (cs : Nat)] 32)).heap.size = w.heap.size + 1 by simp] at hsm
  have hx0 := ((Blk.new w 32 #[.int .i64 (cw : Nat), .int .i64 (cs : Nat)]).alloc (.map #[] 0)).alloc (.cells #[.int .i64 1, .int .i64 (cw : Nat), .int .i64 (cs : Nat), .slice none 0 0, .bool false, .int .i64 0, .slice none 0 0, .slice none 0 0, .pointer none, .pointer none, .int .i64 65535, .int .i64 65535, .int .i64 2147483647, .bool false, .int .i64 0, .map (some (w.heap.size + 1)), .pointer none, .bool false, .bool false, .bool false, .int .i64 0, .pointer none, .pointer none] 80)
  have hx := Blk.new ((w.alloc (.cells #[.int .i64 (cw : Nat), .int .i64 (cs : Nat)] 32)).alloc (.map #[] 0)) 80 #[.int .i64 1, .int .i64 (cw : Nat), .int .i64 (cs : Nat), .slice none 0 0, .bool false, .int .i64 0, .slice none 0 0, .slice none 0 0, .pointer none, .pointer none, .int .i64 65535, .int .i64 65535, .int .i64 2147483647, .bool false, .int .i64 0, .map (some (w.heap.size + 1)), .pointer none, .bool false, .bool false, .bool false, .int .i64 0, .pointer none, .pointer none]
  rw [show ((w.alloc (.cells #[.int .i64 (cw : Nat), .int .i64 (cs : Nat)] 32)).alloc (.map #[] 0)).heap.size = w.heap.size + 1 + 1 by simp] at hx
  have hb1 : Below w.heap.size w (((w.alloc (.cells #[.int .i64 (cw : Nat), .int .i64 (cs : Nat)] 32)).alloc (.map #[] 0)).alloc (.cells #[.int .i64 1, .int .i64 (cw : Nat), .int .i64 (cs : Nat), .slice none 0 0, .bool false, .int .i64 0, .slice none 0 0, .slice none 0 0, .pointer none, .pointer none, .int .i64 65535, .int .i64 65535, .int .i64 2147483647, .bool false, .int .i64 0, .map (some (w.heap.size + 1)), .pointer none, .bool false, .bool false, .bool false, .int .i64 0, .pointer none, .pointer none] 80)) := (((Below.refl _ _).alloc (Nat.le_refl _) _).alloc (by simp) _).alloc (by simp; omega) _
  have hz1 : (((w.alloc (.cells #[.int .i64 (cw : Nat), .int .i64 (cs : Nat)] 32)).alloc (.map #[] 0)).alloc (.cells #[.int .i64 1, .int .i64 (cw : Nat), .int .i64 (cs : Nat), .slice none 0 0, .bool false, .int .i64 0, .slice none 0 0, .slice none 0 0, .pointer none, .pointer none, .int .i64 65535, .int .i64 65535, .int .i64 2147483647, .bool false, .int .i64 0, .map (some (w.heap.size + 1)), .pointer none, .bool false, .bool false, .bool false, .int .i64 0, .pointer none, .pointer none] 80)).heap.size = w.heap.size + 3 := by simp
  generalize ((w.alloc (.cells #[.int .i64 (cw : Nat), .int .i64 (cs : Nat)] 32)).alloc (.map #[] 0)).alloc (.cells #[.int .i64 1, .int .i64 (cw : Nat), .int .i64 (cs : Nat), .slice none 0 0, .bool false, .int .i64 0, .slice none 0 0, .slice none 0 0, .pointer none, .pointer none, .int .i64 65535, .int .i64 65535, .int .i64 2147483647, .bool false, .int .i64 0, .map (some (w.heap.size + 1)), .pointer none, .bool false, .bool false, .bool false, .int .i64 0, .pointer none, .pointer none] 80) = W1 at *
  generalize hbb : w.heap.size + 1 + 1 = b at *
  have HBb := Lib.hid (show w.heap.size + 2 = b from hbb)
  clear hbb
  have HSM := Lib.hid hsm
  have HX0 := Lib.hid hx0
  have HX := Lib.hid hx
  have HB1 := Lib.hid hb1
  have HZ1 := Lib.hid hz1
  clear hsm hx0 hx hb1 hz1
  go_wp2_with fail
  refine (window_any 65535 W1 (by omega) (by omega)).mono ?_
  rintro e W2 ⟨rfl, hw2⟩
  have HW2 := Lib.hid hw2
  clear hw2
  go_wp2_with fail
  refine (window_any 65535 W2 (by omega) (by omega)).mono ?_
  rintro e W3 ⟨rfl, hw3⟩
  have e2 : W1.heap.size = w.heap.size + 3 := HZ1.out
  have e3 : W2.heap.size = w.heap.size + 4 := by rw [HW2.out]; simp [HZ1.out]
  rw [e2, e3]
  have hB3 : Below W1.heap.size W1 W3 := by rw [hw3, HW2.out]; exact ((Below.refl _ _).alloc (Nat.le_refl _) _).alloc (by simp) _
  have hi3 : Blk W3 (w.heap.size + 3) 177 #[.int .i64 65535] := by
    rw [hw3, HW2.out, ← e2]; exact (Blk.new W1 _ _).alloc _
  have ho3 : Blk W3 (w.heap.size + 4) 177 #[.int .i64 65535] := by
    rw [hw3, ← e3]; exact Blk.new W2 _ _
  have hz3 : W3.heap.size = w.heap.size + 5 := by rw [hw3]; simp [e3]
  have HX3 := Lib.hid (HX.out.below hB3 HX.out.lt)
  have HI3 := Lib.hid hi3
  have HO3 := Lib.hid ho3
  have HZ3 := Lib.hid hz3
  have HB3 := Lib.hid hB3
  clear hw3 hB3 hi3 ho3 hz3 e2 e3
  have f8 := HX3.out.frozen 8
  have f9 := HX3.out.frozen 9
  have c8 : W3.cell? ⟨b, 8, none⟩ = some (.pointer none) := HX3.out.cell 8
  have c9 : W3.cell? ⟨b, 9, none⟩ = some (.pointer none) := HX3.out.cell 9
  go_upto_region 7 with fail
  have HX4 := Lib.hid (show Blk ((W3.setCell ⟨b, 8, none⟩ (.pointer (some ⟨w.heap.size + 3, 0, none⟩))).setCell ⟨b, 9, none⟩ (.pointer (some ⟨w.heap.size + 4, 0, none⟩))) b 80 #[.int .i64 1, .int .i64 (cw : Nat), .int .i64 (cs : Nat), .slice none 0 0, .bool false, .int .i64 0, .slice none 0 0, .slice none 0 0, .pointer (some ⟨w.heap.size + 3, 0, none⟩), .pointer (some ⟨w.heap.size + 4, 0, none⟩), .int .i64 65535, .int .i64 65535, .int .i64 2147483647, .bool false, .int .i64 0, .map (some (w.heap.size + 1)), .pointer none, .bool false, .bool false, .bool false, .int .i64 0, .pointer none, .pointer none] from (HX3.out.put 8 _).put 9 _)
  have HG4 := Lib.hid (show W3.grownBy ((W3.setCell ⟨b, 8, none⟩ (.pointer (some ⟨w.heap.size + 3, 0, none⟩))).setCell ⟨b, 9, none⟩ (.pointer (some ⟨w.heap.size + 4, 0, none⟩))) (some b) from grown_setCell (grown_setCell (World.grownBy.refl W3 (some b)) 8 _) 9 _)
  have HZ4 := Lib.hid (show ((W3.setCell ⟨b, 8, none⟩ (.pointer (some ⟨w.heap.size + 3, 0, none⟩))).setCell ⟨b, 9, none⟩ (.pointer (some ⟨w.heap.size + 4, 0, none⟩))).heap.size = w.heap.size + 5 by simp [World.setCell, HZ3.out])
  generalize (W3.setCell ⟨b, 8, none⟩ (.pointer (some ⟨w.heap.size + 3, 0, none⟩))).setCell ⟨b, 9, none⟩ (.pointer (some ⟨w.heap.size + 4, 0, none⟩)) = W4 at *
  clear f8 f9 c8 c9
  go_wp2_with fail
  refine (newEnc_any W4).mono ?_
  rintro e W5 ⟨rfl, hbe, hte, hz5, hb5⟩
  have HX5 := Lib.hid (HX4.out.below hb5 HX4.out.lt)
  rw [HZ4.out] at hbe hte hz5 ⊢
  have HBE := Lib.hid hbe
  have HTE := Lib.hid hte
  have HZ5 := Lib.hid hz5
  have HB5 := Lib.hid hb5
  clear hbe hte hz5 hb5
  have f21 := HX5.out.frozen 21
  have c21 : W5.cell? ⟨b, 21, none⟩ = some (.pointer none) := HX5.out.cell 21
  go_upto_region 8 with fail
  have HX6 := Lib.hid (show Blk (W5.setCell ⟨b, 21, none⟩ (.pointer (some ⟨w.heap.size + 5 + 2, 0, none⟩))) b 80 #[.int .i64 1, .int .i64 (cw : Nat), .int .i64 (cs : Nat), .slice none 0 0, .bool false, .int .i64 0, .slice none 0 0, .slice none 0 0, .pointer (some ⟨w.heap.size + 3, 0, none⟩), .pointer (some ⟨w.heap.size + 4, 0, none⟩), .int .i64 65535, .int .i64 65535, .int .i64 2147483647, .bool false, .int .i64 0, .map (some (w.heap.size + 1)), .pointer none, .bool false, .bool false, .bool false, .int .i64 0, .pointer (some ⟨w.heap.size + 7, 0, none⟩), .pointer none] from HX5.out.put 21 _)
  have HG6 := Lib.hid (show W5.grownBy (W5.setCell ⟨b, 21, none⟩ (.pointer (some ⟨w.heap.size + 5 + 2, 0, none⟩))) (some b) from grown_setCell (World.grownBy.refl W5 (some b)) 21 _)
  have HZ6 := Lib.hid (show (W5.setCell ⟨b, 21, none⟩ (.pointer (some ⟨w.heap.size + 5 + 2, 0, none⟩))).heap.size = w.heap.size + 8 by simp [World.setCell, HZ5.out])
  generalize W5.setCell ⟨b, 21, none⟩ (.pointer (some ⟨w.heap.size + 5 + 2, 0, none⟩)) = W6 at *
  clear f21 c21
  go_wp2_with fail
  refine (newDec_any W6).mono ?_
  rintro e W7 ⟨rfl, hbe, hte, hz5, hb5⟩
  have HX7 := Lib.hid (HX6.out.below hb5 HX6.out.lt)
  rw [HZ6.out] at hbe hte hz5 ⊢
  have HBD := Lib.hid hbe
  have HTD := Lib.hid hte
  have HZ7 := Lib.hid hz5
  have HB7 := Lib.hid hb5
  clear hbe hte hz5 hb5
  have f22 := HX7.out.frozen 22
  have c22 : W7.cell? ⟨b, 22, none⟩ = some (.pointer none) := HX7.out.cell 22
  go_upto_region 9 with fail
  have HX8 := Lib.hid (show Blk (W7.setCell ⟨b, 22, none⟩ (.pointer (some ⟨w.heap.size + 8 + 2, 0, none⟩))) b 80 #[.int .i64 1, .int .i64 (cw : Nat), .int .i64 (cs : Nat), .slice none 0 0, .bool false, .int .i64 0, .slice none 0 0, .slice none 0 0, .pointer (some ⟨w.heap.size + 3, 0, none⟩), .pointer (some ⟨w.heap.size + 4, 0, none⟩), .int .i64 65535, .int .i64 65535, .int .i64 2147483647, .bool false, .int .i64 0, .map (some (w.heap.size + 1)), .pointer none, .bool false, .bool false, .bool false, .int .i64 0, .pointer (some ⟨w.heap.size + 7, 0, none⟩), .pointer (some ⟨w.heap.size + 10, 0, none⟩)] from HX7.out.put 22 _)
  have HG8 := Lib.hid (show W7.grownBy (W7.setCell ⟨b, 22, none⟩ (.pointer (some ⟨w.heap.size + 8 + 2, 0, none⟩))) (some b) from grown_setCell (World.grownBy.refl W7 (some b)) 22 _)
  have HZ8 := Lib.hid (show (W7.setCell ⟨b, 22, none⟩ (.pointer (some ⟨w.heap.size + 8 + 2, 0, none⟩))).heap.size = w.heap.size + 11 by simp [World.setCell, HZ7.out])
  generalize W7.setCell ⟨b, 22, none⟩ (.pointer (some ⟨w.heap.size + 8 + 2, 0, none⟩)) = W8 at *
  clear f22 c22
  have hx0 := HX0.out.grown (grown_trans (grown_of_below HB3.out (some b)) (grown_trans HG4.out (grown_trans (grown_of_below HB5.out (some b)) (grown_trans HG6.out (grown_trans (grown_of_below HB7.out (some b)) HG8.out))))) (fun e => by injection e with e; have := HBb.out; omega)
  have d0 : W8.cell? ⟨w.heap.size, 0, none⟩ = some (.int .i64 (cw : Nat)) := hx0.cell 0
  have d1 : W8.cell? ⟨w.heap.size, 1, none⟩ = some (.int .i64 (cs : Nat)) := hx0.cell 1
  have HX0b := Lib.hid hx0
  clear hx0
  go_upto_region 11 with fail
  have HS9 := Lib.hid (Blk.new W8 87 #[.int .i64 3, .int .i64 (cs : Nat)])
  have HX9 := Lib.hid (HX8.out.alloc (.cells #[.int .i64 3, .int .i64 (cs : Nat)] 87))
  have HX0c := Lib.hid (HX0b.out.alloc (.cells #[.int .i64 3, .int .i64 (cs : Nat)] 87))
  have HG9 := Lib.hid (World.grownBy_alloc W8 (.cells #[.int .i64 3, .int .i64 (cs : Nat)] 87) (some b))
  have HZ9 := Lib.hid (show (W8.alloc (.cells #[.int .i64 3, .int .i64 (cs : Nat)] 87)).heap.size = w.heap.size + 12 by simp [HZ8.out])
  clear d0 d1
  generalize W8.alloc (.cells #[.int .i64 3, .int .i64 (cs : Nat)] 87) = W9 at *
  have HGs := Lib.hid (show W8.heap.size = w.heap.size + 11 from HZ8.out)
  generalize W8.heap.size = gs at *
  go_wp2_with fail
  refine (preface_any W9).mono ?_
  rintro e W10 ⟨rfl, hr, hb⟩
  have HX10 := Lib.hid (HX9.out.below hb HX9.out.lt)
  have HX0d := Lib.hid (HX0c.out.below hb HX0c.out.lt)
  have HS10 := Lib.hid (HS9.out.below hb HS9.out.lt)
  have HB10 := Lib.hid hb
  rw [HZ9.out] at hr ⊢
  have HR10 := Lib.hid hr
  have HP10 := Lib.hid (show w.heap.size + 12 + 1 ≤ W10.heap.size by have h := hr.2 (by omega); obtain ⟨ad, e, h1, h2⟩ := h; injection e with e; subst e; have := World.block_lt_of_cell? _ _ (h2 0 (by omega)); rw [Addr.add_lit] at this; exact this)
  clear hr hb
  have f6 := HX10.out.frozen 6
  have c6 : W10.cell? ⟨b, 6, none⟩ = some (.slice none 0 0) := HX10.out.cell 6
  go_upto_region 12 with fail
  have HX11 := Lib.hid (HX10.out.put 6 (.slice (some ⟨w.heap.size + 12, 0, none⟩) 24 24))
  have HG11 := Lib.hid (grown_setCell (World.grownBy.refl W10 (some b)) 6 (.slice (some ⟨w.heap.size + 12, 0, none⟩) 24 24))
  clear f6 c6
  generalize W10.setCell ⟨b, 6, none⟩ (.slice (some ⟨w.heap.size + 12, 0, none⟩) 24 24) = W11 at *
  have c6 : W11.cell? ⟨b, 6, none⟩ = some (.slice (some ⟨w.heap.size + 12, 0, none⟩) 24 24) := HX11.out.cell 6
  have c5 : W11.cell? ⟨b, 5, none⟩ = some (.int .i64 0) := HX11.out.cell 5
  have f5 := HX11.out.frozen 5
  go_upto_region 13 with fail
  have HX12 := Lib.hid (HX11.out.put 5 (.int .i64 24))
  have HG12 := Lib.hid (grown_setCell (World.grownBy.refl W11 (some b)) 5 (.int .i64 24))
  have HG912 := Lib.hid (grown_trans (grown_of_below HB10.out (some b)) (grown_trans HG11.out HG12.out))
  clear c6 c5 f5
  generalize W11.setCell ⟨b, 5, none⟩ (.int .i64 24) = W12 at *
  have HS12 := Lib.hid (HS9.out.grown HG912.out (fun e => by injection e with e; have := HBb.out; have := HGs.out; omega))
  have s0 : W12.cell? ⟨gs, 0, none⟩ = some (.int .i64 3) := HS12.out.cell 0
  have s1 : W12.cell? ⟨gs, 1, none⟩ = some (.int .i64 (cs : Nat)) := HS12.out.cell 1
  have q0 := HS12.out.frozen 0
  have q1 := HS12.out.frozen 1
  have hx0e := (HX0d.out.grown (grown_trans HG11.out HG12.out) (fun e => by injection e with e; have := HBb.out; omega))
  have d0 : W12.cell? ⟨w.heap.size, 0, none⟩ = some (.int .i64 (cw : Nat)) := hx0e.cell 0
  have hne : ¬ gs = w.heap.size := by have := HGs.out; omega
  clear hx0e
  go_wp2_with fail
  have HG13 := Lib.hid (grown_setCell (grown_setCell (World.grownBy.refl W12 (some gs)) 0 (.int .i64 2)) 1 (.int .i64 0))
  have HX13 := Lib.hid ((HX12.out.far (p := ⟨gs, 0, none⟩) (by show b ≠ gs; have := HBb.out; have := HGs.out; omega) (.int .i64 2)).far (p := ⟨gs, 1, none⟩) (by show b ≠ gs; have := HBb.out; have := HGs.out; omega) (.int .i64 0))
  clear s0 s1 q0 q1
  have HSE := Lib.hid (show ((W12.setCell ⟨gs, 0, none⟩ (.int .i64 2)).setCell ⟨gs, 1, none⟩ (.int .i64 0)).heap.size = W12.heap.size by simp [World.setCell])
  generalize (W12.setCell ⟨gs, 0, none⟩ (.int .i64 2)).setCell ⟨gs, 1, none⟩ (.int .i64 0) = W13 at *
  have HG913 : Hid (∀ (W0 : World), W0.grownBy W9 (some b) → W0.heap.size ≤ gs → W0.grownBy W13 (some b)) := Lib.hid (fun W0 h h2 => (grown_trans h HG912.out).andThen HG13.out (fun j e => .inl (by injection e with e; omega)))
  have HZ13 := Lib.hid (show w.heap.size + 13 ≤ W13.heap.size by have h1 := HR10.out; have h2 := HG13.out.size; have h3 := HG12.out.size; have h4 := HG11.out.size; have h5 := HP10.out; omega)
  have hz12 : w.heap.size + 12 + 1 ≤ W12.heap.size := Nat.le_trans HP10.out (Nat.le_trans HG11.out.size HG12.out.size)
  have hr12 : Rd W12 (w.heap.size + 12 + 1) (some ⟨w.heap.size + 12, 0, none⟩) 24 prefB := HR10.out.other ((grown_trans HG11.out HG12.out).block _ (by have := HP10.out; omega) (fun e => by injection e with e; have := HBb.out; omega))
  have hr13 : Rd W13 (w.heap.size + 12 + 1) (some ⟨w.heap.size + 12, 0, none⟩) 24 prefB := hr12.other (HG13.out.block _ (by omega) (fun e => by injection e with e; have := HGs.out; omega))
  have HOz := Lib.hid (show Oz W13 (fun g => ow0 w.heap.size (w.heap.size + 12) g = .out) (.slice (some ⟨w.heap.size + 12, 0, none⟩) 24 24) prefB from Oz.full hr13 (by have := HZ13.out; omega) (by omega) (by simp [ow0]) (by omega))
  clear hr12 hz12 hr13
  have HG8 := Lib.hid (grown_trans HG8.out HG9.out)
  have HG7 := Lib.hid (HG913.out _ HG8.out (by have := HZ7.out; have := HGs.out; omega))
  have HG5 := Lib.hid (HG913.out _ (grown_trans HG6.out (grown_trans (grown_of_below HB7.out (some b)) HG8.out)) (by have := HZ5.out; have := HGs.out; omega))
  have HG3 := Lib.hid (HG913.out _ (grown_trans HG4.out (grown_trans (grown_of_below HB5.out (some b)) (grown_trans HG6.out (grown_trans (grown_of_below HB7.out (some b)) HG8.out)))) (by have := HZ3.out; have := HGs.out; omega))
  have HG1 := Lib.hid (HG913.out _ (grown_trans (grown_of_below HB3.out (some b)) (grown_trans HG4.out (grown_trans (grown_of_below HB5.out (some b)) (grown_trans HG6.out (grown_trans (grown_of_below HB7.out (some b)) HG8.out))))) (by have := HZ1.out; have := HGs.out; omega))
  have hcn := new_cn w.heap.size b (w.heap.size + 12) 1 cw cs (.slice (some ⟨w.heap.size + 12, 0, none⟩) 24 24) HBb.out HG1.out HSM.out HG3.out HI3.out HO3.out HG5.out HBE.out HTE.out HG7.out HBD.out HTD.out HX13.out HOz.out (by have := HZ13.out; omega) (by have := HZ13.out; omega)
  have hlit := Cm.Ew.lit (k := 2) setC 87 (fun _ => rfl) W13 [(2, 0), (4, cw), (6, 16384)] (by simp)
  have hsr : SetR (W13.alloc (.cells #[.int .i64 2, .int .i64 0, .int .i64 4, .int .i64 (cw : Nat), .int .i64 6, .int .i64 16384] 87)) (.slice (some ⟨W13.heap.size, 0, none⟩) 3 3) [(2, 0), (4, cw), (6, 16384)] := SetR.of_own (base := W13.heap.size) hlit
  have hbu := bld_sets _ [(2, 0), (4, cw), (6, 16384)] _ _ hsr (by simp) (by
    intro s hs
    have := HW.out
    have := HSs.out
    simp only [List.mem_cons, List.not_mem_nil, or_false] at hs
    rcases hs with rfl | rfl | rfl <;> refine ⟨by simp <;> omega, by simp <;> omega, by simp [badSet] <;> omega⟩)
  have hput := put_any _ (ow0 w.heap.size (w.heap.size + 12)) b (newM0 1 cw cs) _ _ _ (hcn.alloc (.cells #[.int .i64 2, .int .i64 0, .int .i64 4, .int .i64 (cw : Nat), .int .i64 6, .int .i64 16384] 87)) rfl hbu (by simp [newM0, prefB])
  rw [infC_sets] at hput
  simp only [List.length_cons, List.length_nil, Nat.zero_add, Nat.reduceAdd] at hput
  rw [HSE.out] at hput
  have HB14 := Lib.hid (show Below w.heap.size w (W13.alloc (.cells #[.int .i64 2, .int .i64 0, .int .i64 4, .int .i64 (cw : Nat), .int .i64 6, .int .i64 16384] 87)) from
    (HB1.out.grown HG1.out HB1.out.size (fun g e => by injection e with e; have := HBb.out; omega)).alloc (by have := HZ13.out; omega) _)
  with_reducible refine hput.mono ?_
  rintro e w' ⟨ow', L', rfl, hc, hf⟩
  have HC := Lib.hid hc
  have HF := Lib.hid hf
  clear hput hc hf hcn hlit hsr hbu
  go_wp2
  go_ret2
  have hno : ∀ g, g < w.heap.size → ow0 w.heap.size (w.heap.size + 12) g = .no := fun g hg => by
    unfold ow0
    rw [if_neg (by omega), if_neg (by omega), if_neg (by omega), if_neg (by omega), if_neg (by omega), if_neg (by omega), if_neg (by omega)]
  refine ⟨b, ow', L', rfl, ?_, ⟨HF.out.os.trans HB14.out.os, HF.out.tape.trans HB14.out.tape, HF.out.output.trans HB14.out.output, Nat.le_trans HB14.out.size HF.out.size, fun g hg => (HF.out.keep g (Nat.lt_of_lt_of_le hg HB14.out.size) (hno g hg)).trans (HB14.out.block g hg)⟩, fun g hg => HF.out.no g (Nat.lt_of_lt_of_le hg HB14.out.size) (hno g hg)⟩
  have hM : ({ newM0 1 cw cs with out := (newM0 1 cw cs).out ++ frameB 4 (flg { typ := 4, sets := [(2, 0), (4, cw), (6, 16384)] }) 0 (pay { typ := 4, sets := [(2, 0), (4, cw), (6, 16384)] }) } : Cv) = newM 1 cw cs := by
    have h1 : flg { typ := 4, sets := [(2, 0), (4, cw), (6, 16384)] } = 0 := by simp [flg]
    rw [h1]
    rfl
  rw [← hM]
  exact HC.out
set_option maxHeartbeats 8000000 in
set_option maxRecDepth 100000 in
theorem new2_any (w : World) (cw cs : Nat) (hw : cw ≤ 2147483647) (hs : cs ≤ 100) :
    Calls Tryz.prog 9 #[.int .i64 2, .agg #[.int .i64 (cw : Nat), .int .i64 (cs : Nat)]] w fun e w' => ∃ b ow L, e = .returned (.tuple #[.pointer (some ⟨b, 0, none⟩), .nilIface]) ∧ CN w' ow b (newM 2 cw cs) L ∧ Below w.heap.size w w' ∧ (∀ g, g < w.heap.size → ow g = .no) := by
  have HW := Lib.hid hw
  have HSs := Lib.hid hs
  have k1 : ((2147483647 : Int) < (cw : Int)) = False := by simp; omega
  have k2 : ((100 : Int) < (cs : Int)) = False := by simp; omega
  have k0 : ((cw : Int) < 0) = False := by simp
  have k3 : ((cs : Int) < 0) = False := by simp
  have hmk := fun W => run_mkMap (P := Tryz.prog) 74 W
  clear hw hs
  go_enter Tryz.func9, Tryz.ntmps9
  go_upto_region 6 with fail
  have hsm := ((SM.made Tryz.prog 3 (w.alloc (.cells #[.int .i64 (cw : Nat), .int .i64 (cs : Nat)] 32)) (fun _ => .pointer none)).keep (Below.heap_alloc _ (.cells #[.int .i64 2, .int .i64 (cw : Nat), .int .i64 (cs : Nat), .slice none 0 0, .bool false, .int .i64 0, .slice none 0 0, .slice none 0 0, .pointer none, .pointer none, .int .i64 65535, .int .i64 65535, .int .i64 2147483647, .bool false, .int .i64 0, .map (some (w.heap.size + 1)), .pointer none, .bool false, .bool false, .bool false, .int .i64 0, .pointer none, .pointer none] 80) _ (by simp)))
  rw [show (w.alloc (.cells #[.int .i64 (cw : Nat), .int .i64 (cs : Nat)] 32)).heap.size = w.heap.size + 1 by simp] at hsm
  have hx0 := ((Blk.new w 32 #[.int .i64 (cw : Nat), .int .i64 (cs : Nat)]).alloc (.map #[] 0)).alloc (.cells #[.int .i64 2, .int .i64 (cw : Nat), .int .i64 (cs : Nat), .slice none 0 0, .bool false, .int .i64 0, .slice none 0 0, .slice none 0 0, .pointer none, .pointer none, .int .i64 65535, .int .i64 65535, .int .i64 2147483647, .bool false, .int .i64 0, .map (some (w.heap.size + 1)), .pointer none, .bool false, .bool false, .bool false, .int .i64 0, .pointer none, .pointer none] 80)
  have hx := Blk.new ((w.alloc (.cells #[.int .i64 (cw : Nat), .int .i64 (cs : Nat)] 32)).alloc (.map #[] 0)) 80 #[.int .i64 2, .int .i64 (cw : Nat), .int .i64 (cs : Nat), .slice none 0 0, .bool false, .int .i64 0, .slice none 0 0, .slice none 0 0, .pointer none, .pointer none, .int .i64 65535, .int .i64 65535, .int .i64 2147483647, .bool false, .int .i64 0, .map (some (w.heap.size + 1)), .pointer none, .bool false, .bool false, .bool false, .int .i64 0, .pointer none, .pointer none]
  rw [show ((w.alloc (.cells #[.int .i64 (cw : Nat), .int .i64 (cs : Nat)] 32)).alloc (.map #[] 0)).heap.size = w.heap.size + 1 + 1 by simp] at hx
  have hb1 : Below w.heap.size w (((w.alloc (.cells #[.int .i64 (cw : Nat), .int .i64 (cs : Nat)] 32)).alloc (.map #[] 0)).alloc (.cells #[.int .i64 2, .int .i64 (cw : Nat), .int .i64 (cs : Nat), .slice none 0 0, .bool false, .int .i64 0, .slice none 0 0, .slice none 0 0, .pointer none, .pointer none, .int .i64 65535, .int .i64 65535, .int .i64 2147483647, .bool false, .int .i64 0, .map (some (w.heap.size + 1)), .pointer none, .bool false, .bool false, .bool false, .int .i64 0, .pointer none, .pointer none] 80)) := (((Below.refl _ _).alloc (Nat.le_refl _) _).alloc (by simp) _).alloc (by simp; omega) _
  have hz1 : (((w.alloc (.cells #[.int .i64 (cw : Nat), .int .i64 (cs : Nat)] 32)).alloc (.map #[] 0)).alloc (.cells #[.int .i64 2, .int .i64 (cw : Nat), .int .i64 (cs : Nat), .slice none 0 0, .bool false, .int .i64 0, .slice none 0 0, .slice none 0 0, .pointer none, .pointer none, .int .i64 65535, .int .i64 65535, .int .i64 2147483647, .bool false, .int .i64 0, .map (some (w.heap.size + 1)), .pointer none, .bool false, .bool false, .bool false, .int .i64 0, .pointer none, .pointer none] 80)).heap.size = w.heap.size + 3 := by simp
  generalize ((w.alloc (.cells #[.int .i64 (cw : Nat), .int .i64 (cs : Nat)] 32)).alloc (.map #[] 0)).alloc (.cells #[.int .i64 2, .int .i64 (cw : Nat), .int .i64 (cs : Nat), .slice none 0 0, .bool false, .int .i64 0, .slice none 0 0, .slice none 0 0, .pointer none, .pointer none, .int .i64 65535, .int .i64 65535, .int .i64 2147483647, .bool false, .int .i64 0, .map (some (w.heap.size + 1)), .pointer none, .bool false, .bool false, .bool false, .int .i64 0, .pointer none, .pointer none] 80) = W1 at *
  generalize hbb : w.heap.size + 1 + 1 = b at *
  have HBb := Lib.hid (show w.heap.size + 2 = b from hbb)
  clear hbb
  have HSM := Lib.hid hsm
  have HX0 := Lib.hid hx0
  have HX := Lib.hid hx
  have HB1 := Lib.hid hb1
  have HZ1 := Lib.hid hz1
  clear hsm hx0 hx hb1 hz1
  go_wp2_with fail
  refine (window_any 65535 W1 (by omega) (by omega)).mono ?_
  rintro e W2 ⟨rfl, hw2⟩
  have HW2 := Lib.hid hw2
  clear hw2
  go_wp2_with fail
  refine (window_any 65535 W2 (by omega) (by omega)).mono ?_
  rintro e W3 ⟨rfl, hw3⟩
  have e2 : W1.heap.size = w.heap.size + 3 := HZ1.out
  have e3 : W2.heap.size = w.heap.size + 4 := by rw [HW2.out]; simp [HZ1.out]
  rw [e2, e3]
  have hB3 : Below W1.heap.size W1 W3 := by rw [hw3, HW2.out]; exact ((Below.refl _ _).alloc (Nat.le_refl _) _).alloc (by simp) _
  have hi3 : Blk W3 (w.heap.size + 3) 177 #[.int .i64 65535] := by
    rw [hw3, HW2.out, ← e2]; exact (Blk.new W1 _ _).alloc _
  have ho3 : Blk W3 (w.heap.size + 4) 177 #[.int .i64 65535] := by
    rw [hw3, ← e3]; exact Blk.new W2 _ _
  have hz3 : W3.heap.size = w.heap.size + 5 := by rw [hw3]; simp [e3]
  have HX3 := Lib.hid (HX.out.below hB3 HX.out.lt)
  have HI3 := Lib.hid hi3
  have HO3 := Lib.hid ho3
  have HZ3 := Lib.hid hz3
  have HB3 := Lib.hid hB3
  clear hw3 hB3 hi3 ho3 hz3 e2 e3
  have f8 := HX3.out.frozen 8
  have f9 := HX3.out.frozen 9
  have c8 : W3.cell? ⟨b, 8, none⟩ = some (.pointer none) := HX3.out.cell 8
  have c9 : W3.cell? ⟨b, 9, none⟩ = some (.pointer none) := HX3.out.cell 9
  go_upto_region 7 with fail
  have HX4 := Lib.hid (show Blk ((W3.setCell ⟨b, 8, none⟩ (.pointer (some ⟨w.heap.size + 3, 0, none⟩))).setCell ⟨b, 9, none⟩ (.pointer (some ⟨w.heap.size + 4, 0, none⟩))) b 80 #[.int .i64 2, .int .i64 (cw : Nat), .int .i64 (cs : Nat), .slice none 0 0, .bool false, .int .i64 0, .slice none 0 0, .slice none 0 0, .pointer (some ⟨w.heap.size + 3, 0, none⟩), .pointer (some ⟨w.heap.size + 4, 0, none⟩), .int .i64 65535, .int .i64 65535, .int .i64 2147483647, .bool false, .int .i64 0, .map (some (w.heap.size + 1)), .pointer none, .bool false, .bool false, .bool false, .int .i64 0, .pointer none, .pointer none] from (HX3.out.put 8 _).put 9 _)
  have HG4 := Lib.hid (show W3.grownBy ((W3.setCell ⟨b, 8, none⟩ (.pointer (some ⟨w.heap.size + 3, 0, none⟩))).setCell ⟨b, 9, none⟩ (.pointer (some ⟨w.heap.size + 4, 0, none⟩))) (some b) from grown_setCell (grown_setCell (World.grownBy.refl W3 (some b)) 8 _) 9 _)
  have HZ4 := Lib.hid (show ((W3.setCell ⟨b, 8, none⟩ (.pointer (some ⟨w.heap.size + 3, 0, none⟩))).setCell ⟨b, 9, none⟩ (.pointer (some ⟨w.heap.size + 4, 0, none⟩))).heap.size = w.heap.size + 5 by simp [World.setCell, HZ3.out])
  generalize (W3.setCell ⟨b, 8, none⟩ (.pointer (some ⟨w.heap.size + 3, 0, none⟩))).setCell ⟨b, 9, none⟩ (.pointer (some ⟨w.heap.size + 4, 0, none⟩)) = W4 at *
  clear f8 f9 c8 c9
  go_wp2_with fail
  refine (newEnc_any W4).mono ?_
  rintro e W5 ⟨rfl, hbe, hte, hz5, hb5⟩
  have HX5 := Lib.hid (HX4.out.below hb5 HX4.out.lt)
  rw [HZ4.out] at hbe hte hz5 ⊢
  have HBE := Lib.hid hbe
  have HTE := Lib.hid hte
  have HZ5 := Lib.hid hz5
  have HB5 := Lib.hid hb5
  clear hbe hte hz5 hb5
  have f21 := HX5.out.frozen 21
  have c21 : W5.cell? ⟨b, 21, none⟩ = some (.pointer none) := HX5.out.cell 21
  go_upto_region 8 with fail
  have HX6 := Lib.hid (show Blk (W5.setCell ⟨b, 21, none⟩ (.pointer (some ⟨w.heap.size + 5 + 2, 0, none⟩))) b 80 #[.int .i64 2, .int .i64 (cw : Nat), .int .i64 (cs : Nat), .slice none 0 0, .bool false, .int .i64 0, .slice none 0 0, .slice none 0 0, .pointer (some ⟨w.heap.size + 3, 0, none⟩), .pointer (some ⟨w.heap.size + 4, 0, none⟩), .int .i64 65535, .int .i64 65535, .int .i64 2147483647, .bool false, .int .i64 0, .map (some (w.heap.size + 1)), .pointer none, .bool false, .bool false, .bool false, .int .i64 0, .pointer (some ⟨w.heap.size + 7, 0, none⟩), .pointer none] from HX5.out.put 21 _)
  have HG6 := Lib.hid (show W5.grownBy (W5.setCell ⟨b, 21, none⟩ (.pointer (some ⟨w.heap.size + 5 + 2, 0, none⟩))) (some b) from grown_setCell (World.grownBy.refl W5 (some b)) 21 _)
  have HZ6 := Lib.hid (show (W5.setCell ⟨b, 21, none⟩ (.pointer (some ⟨w.heap.size + 5 + 2, 0, none⟩))).heap.size = w.heap.size + 8 by simp [World.setCell, HZ5.out])
  generalize W5.setCell ⟨b, 21, none⟩ (.pointer (some ⟨w.heap.size + 5 + 2, 0, none⟩)) = W6 at *
  clear f21 c21
  go_wp2_with fail
  refine (newDec_any W6).mono ?_
  rintro e W7 ⟨rfl, hbe, hte, hz5, hb5⟩
  have HX7 := Lib.hid (HX6.out.below hb5 HX6.out.lt)
  rw [HZ6.out] at hbe hte hz5 ⊢
  have HBD := Lib.hid hbe
  have HTD := Lib.hid hte
  have HZ7 := Lib.hid hz5
  have HB7 := Lib.hid hb5
  clear hbe hte hz5 hb5
  have f22 := HX7.out.frozen 22
  have c22 : W7.cell? ⟨b, 22, none⟩ = some (.pointer none) := HX7.out.cell 22
  go_upto_region 9 with fail
  have HX8 := Lib.hid (show Blk (W7.setCell ⟨b, 22, none⟩ (.pointer (some ⟨w.heap.size + 8 + 2, 0, none⟩))) b 80 #[.int .i64 2, .int .i64 (cw : Nat), .int .i64 (cs : Nat), .slice none 0 0, .bool false, .int .i64 0, .slice none 0 0, .slice none 0 0, .pointer (some ⟨w.heap.size + 3, 0, none⟩), .pointer (some ⟨w.heap.size + 4, 0, none⟩), .int .i64 65535, .int .i64 65535, .int .i64 2147483647, .bool false, .int .i64 0, .map (some (w.heap.size + 1)), .pointer none, .bool false, .bool false, .bool false, .int .i64 0, .pointer (some ⟨w.heap.size + 7, 0, none⟩), .pointer (some ⟨w.heap.size + 10, 0, none⟩)] from HX7.out.put 22 _)
  have HG8 := Lib.hid (show W7.grownBy (W7.setCell ⟨b, 22, none⟩ (.pointer (some ⟨w.heap.size + 8 + 2, 0, none⟩))) (some b) from grown_setCell (World.grownBy.refl W7 (some b)) 22 _)
  have HZ8 := Lib.hid (show (W7.setCell ⟨b, 22, none⟩ (.pointer (some ⟨w.heap.size + 8 + 2, 0, none⟩))).heap.size = w.heap.size + 11 by simp [World.setCell, HZ7.out])
  generalize W7.setCell ⟨b, 22, none⟩ (.pointer (some ⟨w.heap.size + 8 + 2, 0, none⟩)) = W8 at *
  clear f22 c22
  have hx0 := HX0.out.grown (grown_trans (grown_of_below HB3.out (some b)) (grown_trans HG4.out (grown_trans (grown_of_below HB5.out (some b)) (grown_trans HG6.out (grown_trans (grown_of_below HB7.out (some b)) HG8.out))))) (fun e => by injection e with e; have := HBb.out; omega)
  have d0 : W8.cell? ⟨w.heap.size, 0, none⟩ = some (.int .i64 (cw : Nat)) := hx0.cell 0
  have d1 : W8.cell? ⟨w.heap.size, 1, none⟩ = some (.int .i64 (cs : Nat)) := hx0.cell 1
  have HX0b := Lib.hid hx0
  clear hx0
  go_upto_region 14 with fail
  have HS9 := Lib.hid (Blk.new W8 87 #[.int .i64 3, .int .i64 (cs : Nat)])
  have HX9 := Lib.hid (HX8.out.alloc (.cells #[.int .i64 3, .int .i64 (cs : Nat)] 87))
  have HX0c := Lib.hid (HX0b.out.alloc (.cells #[.int .i64 3, .int .i64 (cs : Nat)] 87))
  have HG9 := Lib.hid (World.grownBy_alloc W8 (.cells #[.int .i64 3, .int .i64 (cs : Nat)] 87) (some b))
  have HZ9 := Lib.hid (show (W8.alloc (.cells #[.int .i64 3, .int .i64 (cs : Nat)] 87)).heap.size = w.heap.size + 12 by simp [HZ8.out])
  clear d0 d1
  generalize W8.alloc (.cells #[.int .i64 3, .int .i64 (cs : Nat)] 87) = W9 at *
  have HGs := Lib.hid (show W8.heap.size = w.heap.size + 11 from HZ8.out)
  generalize W8.heap.size = gs at *
  have s0 : W9.cell? ⟨gs, 0, none⟩ = some (.int .i64 3) := HS9.out.cell 0
  have s1 : W9.cell? ⟨gs, 1, none⟩ = some (.int .i64 (cs : Nat)) := HS9.out.cell 1
  have d0 : W9.cell? ⟨w.heap.size, 0, none⟩ = some (.int .i64 (cw : Nat)) := HX0c.out.cell 0
  go_wp2_with fail
  have HX13 := HX9
  have HG913 : Hid (∀ (W0 : World), W0.grownBy W9 (some b) → W0.heap.size ≤ gs → W0.grownBy W9 (some b)) := Lib.hid (fun W0 h _ => h)
  have HZ13 := Lib.hid (show w.heap.size + 12 ≤ W9.heap.size by have := HZ9.out; omega)
  have HOz := Lib.hid (show Oz W9 (fun g => ow0 w.heap.size 0 g = .out) (.slice none 0 0) [] from Oz.nil _ _)
  have HG8 := Lib.hid (grown_trans HG8.out HG9.out)
  have HG7 := Lib.hid (HG913.out _ HG8.out (by have := HZ7.out; have := HGs.out; omega))
  have HG5 := Lib.hid (HG913.out _ (grown_trans HG6.out (grown_trans (grown_of_below HB7.out (some b)) HG8.out)) (by have := HZ5.out; have := HGs.out; omega))
  have HG3 := Lib.hid (HG913.out _ (grown_trans HG4.out (grown_trans (grown_of_below HB5.out (some b)) (grown_trans HG6.out (grown_trans (grown_of_below HB7.out (some b)) HG8.out)))) (by have := HZ3.out; have := HGs.out; omega))
  have HG1 := Lib.hid (HG913.out _ (grown_trans (grown_of_below HB3.out (some b)) (grown_trans HG4.out (grown_trans (grown_of_below HB5.out (some b)) (grown_trans HG6.out (grown_trans (grown_of_below HB7.out (some b)) HG8.out))))) (by have := HZ1.out; have := HGs.out; omega))
  have hcn := new_cn w.heap.size b 0 2 cw cs (.slice none 0 0) HBb.out HG1.out HSM.out HG3.out HI3.out HO3.out HG5.out HBE.out HTE.out HG7.out HBD.out HTD.out HX13.out HOz.out (by have := HZ13.out; omega) (by have := HZ13.out; omega)
  have hlit := Cm.Ew.lit (k := 2) setC 87 (fun _ => rfl) W9 [(3, cs), (4, cw), (6, 16384)] (by simp)
  have hsr : SetR (W9.alloc (.cells #[.int .i64 3, .int .i64 (cs : Nat), .int .i64 4, .int .i64 (cw : Nat), .int .i64 6, .int .i64 16384] 87)) (.slice (some ⟨W9.heap.size, 0, none⟩) 3 3) [(3, cs), (4, cw), (6, 16384)] := SetR.of_own (base := W9.heap.size) hlit
  have hbu := bld_sets _ [(3, cs), (4, cw), (6, 16384)] _ _ hsr (by simp) (by
    intro s hs
    have := HW.out
    have := HSs.out
    simp only [List.mem_cons, List.not_mem_nil, or_false] at hs
    rcases hs with rfl | rfl | rfl <;> refine ⟨by simp <;> omega, by simp <;> omega, by simp [badSet] <;> omega⟩)
  have hput := put_any _ (ow0 w.heap.size 0) b (newM0 2 cw cs) _ _ _ (hcn.alloc (.cells #[.int .i64 3, .int .i64 (cs : Nat), .int .i64 4, .int .i64 (cw : Nat), .int .i64 6, .int .i64 16384] 87)) rfl hbu (by simp [newM0, prefB])
  rw [infC_sets] at hput
  simp only [List.length_cons, List.length_nil, Nat.zero_add, Nat.reduceAdd] at hput
  have HB14 := Lib.hid (show Below w.heap.size w (W9.alloc (.cells #[.int .i64 3, .int .i64 (cs : Nat), .int .i64 4, .int .i64 (cw : Nat), .int .i64 6, .int .i64 16384] 87)) from
    (HB1.out.grown HG1.out HB1.out.size (fun g e => by injection e with e; have := HBb.out; omega)).alloc (by have := HZ13.out; omega) _)
  with_reducible refine hput.mono ?_
  rintro e w' ⟨ow', L', rfl, hc, hf⟩
  have HC := Lib.hid hc
  have HF := Lib.hid hf
  clear hput hc hf hcn hlit hsr hbu
  go_wp2
  go_ret2
  have hno : ∀ g, g < w.heap.size → ow0 w.heap.size 0 g = .no := fun g hg => by
    unfold ow0
    rw [if_neg (by omega), if_neg (by omega), if_neg (by omega), if_neg (by omega), if_neg (by omega), if_neg (by omega), if_neg (by omega)]
  refine ⟨b, ow', L', rfl, ?_, ⟨HF.out.os.trans HB14.out.os, HF.out.tape.trans HB14.out.tape, HF.out.output.trans HB14.out.output, Nat.le_trans HB14.out.size HF.out.size, fun g hg => (HF.out.keep g (Nat.lt_of_lt_of_le hg HB14.out.size) (hno g hg)).trans (HB14.out.block g hg)⟩, fun g hg => HF.out.no g (Nat.lt_of_lt_of_le hg HB14.out.size) (hno g hg)⟩
  have hM : ({ newM0 2 cw cs with out := (newM0 2 cw cs).out ++ frameB 4 (flg { typ := 4, sets := [(3, cs), (4, cw), (6, 16384)] }) 0 (pay { typ := 4, sets := [(3, cs), (4, cw), (6, 16384)] }) } : Cv) = newM 2 cw cs := by
    have h1 : flg { typ := 4, sets := [(3, cs), (4, cw), (6, 16384)] } = 0 := by simp [flg]
    rw [h1]
    rfl
  rw [← hM]
  exact HC.out
end Go.Proofs.YtkpppjhbmnfmkaaGreatDoor
