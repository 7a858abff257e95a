/-
  A window that turns: the end's own, a stream's; contracts: (*Conn).gives of some bytes.
  Contract: frame.Open of a padded DATA frame.
  Contract: (*Conn).data: data of a stream that is open, that the windows let.
  Contract: (*Conn).takes: a frame that says something, at an end that has no list under way, given the contract of frame.Open.
  DATA, padded, that comes to an end; contract: (*Conn).Ate of what is held.
  The states of ConnData. No program text is walked here.
-/
import Derived.Test.YtdkfbkjmhgbppaaGreatDoorKa
import Derived.Test.YtdkfbkjmhgbppaaGreatDoorJk
import Derived.Test.YtdkfbkjmhgbppaaGreatDoorJi
import Derived.Test.YtdkfbkjmhgbppaaGreatDoorKc
import Derived.Test.YtdkfbkjmhgbppaaGreatDoorJe
import Derived.Test.YtdkfbkjmhgbppaaGreatDoorJa
import Derived.Test.YtdkfbkjmhgbppaaGreatDoorJj
import Derived.Test.YtdkfbkjmhgbppaaGreatDoorG3
import Derived.Test.YtdkfbkjmhgbppaaGreatDoorJr
import Derived.Test.YtdkfbkjmhgbppaaGreatDoorJs
set_option linter.unusedSimpArgs false
set_option linter.unusedVariables false
section
namespace Go.Proofs.YtdkfbkjmhgbppaaGreatDoor
open Go.RowKit Go.Own Go.Own.Im Go.Own.Cx Go.Own.Fr
section
variable {w : World} {ow : Nat → Tg} {b : Nat} {M : Cv} {L : Lay}
theorem CN.inws (h : CN w ow b M L) (v : Int) : CN (w.setCell ⟨L.ib, 0, none⟩ (.int .i64 v)) ow b { M with inw := v } L ∧ Fr w ow (w.setCell ⟨L.ib, 0, none⟩ (.int .i64 v)) ow := by
  have hsz : (w.setCell ⟨L.ib, 0, none⟩ (.int .i64 v)).heap.size = w.heap.size := by simp [World.setCell]
  have k : Kp (fun x => x = .inw) w ow (w.setCell ⟨L.ib, 0, none⟩ (.int .i64 v)) ow :=
    ⟨by omega, fun g _ ht _ => ⟨Below.heap_setCell w _ _ g (fun e => ht (by rw [e]; exact h.p.ti)), rfl⟩⟩
  have hbk := h.blkK k (by decide)
  have hi : Blk (w.setCell ⟨L.ib, 0, none⟩ (.int .i64 v)) L.ib 157 #[.int .i64 v] := h.p.inw.put 0 (.int .i64 v)
  refine ⟨⟨hbk.1, hbk.2, ⟨h.p.fedK k (by decide), h.p.outK k (by decide), h.p.evK k (by decide) (by decide), hi, h.p.ti, (h.p.outwK k (by decide)).1, (h.p.outwK k (by decide)).2, (h.p.mapK k (by decide)).1, (h.p.mapK k (by decide)).2, fun s hs => h.p.strK k s hs (by intro j; simp), h.p.lstK k (by decide) (by decide), h.p.encK k (by decide), h.p.decK k (by decide)⟩, fun g hg => h.new g (by omega)⟩, ?_⟩
  exact Fr.grown (grown_setCell (World.grownBy.refl w (some L.ib)) 0 _) fun g e => by injection e with e; subst e; rw [h.p.ti]; decide
theorem CN.sins (h : CN w ow b M L) {s : Sv} (hs : s ∈ M.strs) (v : Int) : CN (w.setCell ⟨(L.s s.id).ib, 0, none⟩ (.int .i64 v)) ow b { M with strs := updS M.strs { s with inw := v } } L ∧ Fr w ow (w.setCell ⟨(L.s s.id).ib, 0, none⟩ (.int .i64 v)) ow := by
  have hS := h.p.strs s hs
  have hsz : (w.setCell ⟨(L.s s.id).ib, 0, none⟩ (.int .i64 v)).heap.size = w.heap.size := by simp [World.setCell]
  have k : Kp (fun x => x = .st s.id 1) w ow (w.setCell ⟨(L.s s.id).ib, 0, none⟩ (.int .i64 v)) ow :=
    ⟨by omega, fun g _ ht _ => ⟨Below.heap_setCell w _ _ g (fun e => ht (by rw [e]; exact hS.ti)), rfl⟩⟩
  have hbk := h.blkK k (by simp)
  have hi : Blk (w.setCell ⟨(L.s s.id).ib, 0, none⟩ (.int .i64 v)) (L.s s.id).ib 157 #[.int .i64 v] := hS.inw.put 0 (.int .i64 v)
  have hst : ∀ x ∈ updS M.strs { s with inw := v }, SN (w.setCell ⟨(L.s s.id).ib, 0, none⟩ (.int .i64 v)) ow L.ob (L.s x.id) x := by
    intro x hx
    obtain ⟨y, hy, rfl⟩ := List.mem_map.1 hx
    by_cases e : y.id = s.id
    · rw [if_pos e]
      exact ⟨(k.at_ (.st s.id 0) (by simp) (by simp) _ hS.tb hS.blk.lt).1.trans hS.blk, hS.tb, hi, hS.ti, (k.at_ (.st s.id 2) (by simp) (by simp) _ hS.to hS.outw.lt).1.trans hS.outw, hS.to, (k.at_ (.st s.id 3) (by simp) (by simp) _ hS.tp hS.pair.lt).1.trans hS.pair, hS.tp,
        (k.at_ (.st s.id 4) (by simp) (by simp) _ hS.tr hS.row.lt).1.trans hS.row, hS.tr, hS.waits.turn (fun g hlt ho => k.at_ (.st s.id 5) (by simp) (by simp) g ho hlt) k.size⟩
    · rw [if_neg e]
      exact h.p.strK k y hy (by intro j; simp; intro e2; exact absurd e2 e)
  refine ⟨⟨hbk.1, hbk.2, ⟨h.p.fedK k (by simp), h.p.outK k (by simp), h.p.evK k (by simp) (by simp), (h.p.inwK k (by simp)).1, (h.p.inwK k (by simp)).2, (h.p.outwK k (by simp)).1, (h.p.outwK k (by simp)).2, ?_, (h.p.mapK k (by simp)).2, hst, h.p.lstK k (by simp) (by simp), h.p.encK k (by simp), h.p.decK k (by simp)⟩, fun g hg => h.new g (by omega)⟩, ?_⟩
  · show SM _ _ _ _ ((updS M.strs { s with inw := v }).map (·.id)) _
    rw [updS_ids]
    exact (h.p.mapK k (by simp)).1
  · exact Fr.grown (grown_setCell (World.grownBy.refl w (some (L.s s.id).ib)) 0 _) fun g e => by injection e with e; subst e; rw [hS.ti]; simp
end
theorem infC_win (s n : Nat) : infC { typ := 8, stream := s, inc := n } (.slice none 0 0) (.slice none 0 0) = #[.int .i64 8, .int .i64 0, .int .i64 (s : Nat), .bool false, .bool false, .bool false, .bool false, .bool false, .bool false, .int .i64 0, .int .i64 0, .int .i64 0, .int .i64 0, .int .i64 0, .int .i64 (n : Nat), .int .i64 0, .slice none 0 0, .slice none 0 0] := rfl
theorem flg_win (s n : Nat) : flg { typ := 8, stream := s, inc := n } = 0 := by simp [flg]
theorem pay_win (s n : Nat) : pay { typ := 8, stream := s, inc := n } = be n 4 := by simp [pay]
set_option maxHeartbeats 4000000 in
set_option maxRecDepth 100000 in
/-- Bytes are given back to the connection's window. -/
theorem gives_conn (w : World) (ow : Nat → Tg) (b : Nat) (M : Cv) (L : Lay) (n : Nat) (h : CN w ow b M L) (h0 : 0 < n) (hn : n ≤ 2147483647) (ha : -2147483647 ≤ M.inw ∧ M.inw ≤ 2147483647) (hs : M.inw + n ≤ 2147483647) (ho : M.out.length ≤ 1000000000) :
    Calls Tryz.prog 47 #[.pointer (some ⟨b, 0, none⟩), .int .i64 0, .int .i64 (n : Nat)] w (CPostL w ow b L { M with inw := M.inw + n, out := M.out ++ frameB 8 0 0 (be n 4) } (.tuple #[])) := by
  have hg := h.inws (M.inw + n)
  have HG := Lib.hid (give_yes w L.ib M.inw n h.p.inw ha h0 hs hn)
  have HP := put_anyL _ ow b _ L _ _ hg.1 rfl (bld_win _ 0 n h0 hn (by decide)) ho
  rw [infC_win, flg_win, pay_win] at HP
  have HP := Lib.hid HP
  have HF := Lib.hid hg.2
  have c8 : w.cell? ⟨b, 8, none⟩ = some (.pointer (some ⟨L.ib, 0, none⟩)) := h.blk.cell 8
  have k0 : ((n : Int) == 0) = false := by simp; omega
  have k0' : ((n : Int) = 0) = False := by simp; omega
  clear hg h ha hs hn h0 ho
  go_enter Tryz.func47, Tryz.ntmps47
  go_wp2_with fail
  refine HG.out.mono ?_
  rintro e w1 ⟨rfl, rfl⟩
  go_wp2_with fail
  refine HP.out.mono ?_
  rintro e w2 ⟨ow2, L2, rfl, hc2, hf2, hl2⟩
  have HQ := Lib.hid (show _ ∧ _ ∧ _ from ⟨hc2, hf2, hl2⟩)
  clear hc2 hf2 hl2
  go_wp2
  go_end0
  exact ⟨ow2, L2, rfl, HQ.out.1, HF.out.trans HQ.out.2.1, HQ.out.2.2⟩
set_option maxHeartbeats 4000000 in
set_option maxRecDepth 100000 in
/-- Bytes are given back to a stream's window. -/
theorem gives_str (w : World) (ow : Nat → Tg) (b : Nat) (M : Cv) (L : Lay) (s : Sv) (n : Nat) (h : CN w ow b M L) (hst : strAt M (s.id : Int) = some s) (hid : 0 < s.id ∧ s.id ≤ 2147483647) (h0 : 0 < n) (hn : n ≤ 2147483647) (ha : -2147483647 ≤ s.inw ∧ s.inw ≤ 2147483647) (hs : s.inw + n ≤ 2147483647) (ho : M.out.length ≤ 1000000000) :
    Calls Tryz.prog 47 #[.pointer (some ⟨b, 0, none⟩), .int .i64 (s.id : Nat), .int .i64 (n : Nat)] w (CPostL w ow b L { M with strs := updS M.strs { s with inw := s.inw + n }, out := M.out ++ frameB 8 0 s.id (be n 4) } (.tuple #[])) := by
  obtain ⟨h1, hmem, _⟩ := at_some (L := L) hst
  have hS := h.p.strs s hmem
  have hg := h.sins hmem (s.inw + n)
  have HG := Lib.hid (give_yes w (L.s s.id).ib s.inw n hS.inw ha h0 hs hn)
  have HP := put_anyL _ ow b _ L _ _ hg.1 rfl (bld_win _ s.id n h0 hn hid.2) ho
  rw [infC_win, flg_win, pay_win] at HP
  have HP := Lib.hid HP
  have HF := Lib.hid hg.2
  have hw : (Lit.int .i64 (s.id : Int)).wf = true := by simp [Lit.wf, IntKind.min, IntKind.max, IntKind.bits, IntKind.signed]; omega
  have c8 : w.cell? ⟨b, 8, none⟩ = some (.pointer (some ⟨L.ib, 0, none⟩)) := h.blk.cell 8
  have c15 : w.cell? ⟨b, 15, none⟩ = some (.map (some L.mb)) := h.blk.cell 15
  have hlk := look_str h (s.id : Int) hw
  rw [h1] at hlk
  have d3 : w.cell? ⟨(L.s s.id).sb, 3, none⟩ = some (.pointer (some ⟨(L.s s.id).ib, 0, none⟩)) := hS.blk.cell 3
  have k0 : ((n : Int) == 0) = false := by simp; omega
  have k0' : ((n : Int) = 0) = False := by simp; omega
  have k1 : ((0 : Int) < (s.id : Int)) = True := by simp; omega
  have k1' : (0 < s.id) = True := by simp; omega
  clear hg h ha hs hn h0 ho hS hst h1 hmem hid hw
  go_enter Tryz.func47, Tryz.ntmps47
  go_wp2_with fail
  refine HG.out.mono ?_
  rintro e w1 ⟨rfl, rfl⟩
  go_wp2_with fail
  refine HP.out.mono ?_
  rintro e w2 ⟨ow2, L2, rfl, hc2, hf2, hl2⟩
  have HQ := Lib.hid (show _ ∧ _ ∧ _ from ⟨hc2, hf2, hl2⟩)
  clear hc2 hf2 hl2
  go_wp2
  go_end0
  exact ⟨ow2, L2, rfl, HQ.out.1, HF.out.trans HQ.out.2.1, HQ.out.2.2⟩
end Go.Proofs.YtdkfbkjmhgbppaaGreatDoor
end

section
namespace Go.Own
open Go.RowKit
theorem run_subZ {P : Program} {t e : TypeId} (hP : ByteP P t e) (A : Option Addr) (n c k u : Nat) (hk : k + u ≤ n) (hc : n ≤ c) (W : World) :
    (Instr.slice t (.slice A n c) (some (.int .i64 (k : Int))) (some (.int .i64 (((k + u : Nat)) : Int))) none).run P W = .ok (.slice (if c = k then A else A.map fun x => x.add k) u (c - k)) W := by
  obtain ⟨i, hi, hz, h1, h2⟩ := hP.info
  simp [Instr.slice, run_underlying hP.slice, Instr.sliceBounds, run_sliceBound, sizeOf, typeInfo, hi, h1, Result.andThen, show k ≤ k + u by omega, show (k : Int) ≤ (k + u : Nat) by omega, show ((k + u : Nat) : Int) ≤ c by omega, -Int.natCast_add]
theorem wsub (n p : Nat) (h : p < n) (hn : n ≤ 1000000) : wrap64 ((n : Int) - (p : Int)) = (n : Int) - (p : Int) := by unfold wrap64; omega
theorem wnat (p : Nat) (h : p ≤ 255) : wrap64 (p : Int) = (p : Int) ∧ IntKind.i64.wrap (p : Int) = (p : Int) := ⟨by unfold wrap64; omega, by rw [IntKind.wrap_i64]; omega⟩
theorem cut_subZ {P : Program} {t e : TypeId} (hP : ByteP P t e) {w : World} {B n c k u : Nat} {A : Option Addr} {l : List UInt8} (h : Rd w B A n l) (hk : k + u ≤ n) (hc : n ≤ c) (x y : Int) (hx : x = (k : Int)) (hy : y = ((k + u : Nat) : Int)) :
    ∃ A', Rd w B A' u ((l.drop k).take u) ∧ ∀ W : World, (Instr.slice t (.slice A n c) (some (.int .i64 x)) (some (.int .i64 y)) none).run P W = .ok (.slice A' u (c - k)) W :=
  ⟨_, h.sub hk hc, fun W => by rw [hx, hy]; exact run_subZ hP A n c k u hk hc W⟩
end Go.Own
namespace Go.Proofs.YtdkfbkjmhgbppaaGreatDoor
open Go.RowKit Go.Own Go.Own.Fr Go.Own.Im
set_option maxHeartbeats 16000000 in
set_option maxRecDepth 100000 in
theorem open_padded (t f s : Nat) (ht0 : t = 0) (A : Option Addr) (n c B : Nat) (x : UInt8) (q : List UInt8) (W : World) (hr : Rd W B A n (x :: q)) (hB : B ≤ W.heap.size) (hc : n ≤ c) (hn : n ≤ 1000000) (hf : f ≤ 255) (h8 : hasF t f 8 = true) (hs : s ≤ 2147483647) (h0 : s ≠ 0) (hx : x.toNat < n) :
    Calls Tryz.prog 98 #[.agg #[.int .i64 (t : Nat), .int .i64 (f : Nat), .int .i64 (s : Nat), .slice A n c]] W (OpPost W t f s (x :: q)) := by
  have ht : t ≤ 255 := by omega
  have hlen : q.length + 1 = n := hr.1
  have hOp0 : opn t f s (x :: q) = .ok { ({ info0 t f s with pad := x.toNat } : Inf) with data := q.take (q.length - x.toNat) } := by
    subst ht0
    unfold opn
    rw [if_neg (by intro h; rcases h with h | h; exact h0 h.1; exact absurd h.2 (by decide)), if_pos h8]
    show (if (x :: q).length ≤ x.toNat then _ else _) = _
    rw [if_neg (by simp; omega)]
    rfl
  have HOp := Lib.hid hOp0
  have HRd0 := Lib.hid hr
  have HB := Lib.hid hB
  have HP := Lib.hid h8
  have HN := Lib.hid (show _ ∧ _ ∧ _ ∧ _ from ⟨hc, hn, hx, hlen⟩)
  have HT0 := Lib.hid ht0
  have HSo := Lib.hid (fun w => sort_any t w ht)
  clear hOp0 h8 hr hB hc hn hx hlen ht0
  go_enter Tryz.func98, Tryz.ntmps98
  go_upto_region 1 with fail
  obtain ⟨W0, hW0, hb0, hz0, hx1, hx2⟩ := open_start W t f s (.slice A n c)
  rw [hW0]
  have HB0 := Lib.hid hb0
  have HZ := Lib.hid hz0
  have HX1 := Lib.hid hx1
  have HX2 := Lib.hid hx2
  have c0 : W0.cell? ⟨W.heap.size, 0, none⟩ = some (.int .i64 (t : Nat)) := hx1.cell 0
  clear hW0 hb0 hz0 hx1 hx2
  go_wp2_with fail
  refine (HSo.out W0).mono ?_
  rintro e W1 ⟨g3, g6, g8, rfl, hE, hb1⟩
  have HE := Lib.hid hE
  have HB1 := Lib.hid hb1
  clear c0 hE hb1
  have HX1a := Lib.hid (HX1.out.below HB1.out HX1.out.lt)
  have HX2a := Lib.hid (HX2.out.below HB1.out HX2.out.lt)
  obtain ⟨K1, cap1, hrv⟩ := rdV_form g3 g6 g8 t
  obtain ⟨K2, hwv⟩ := wrV_form t
  rw [hrv, hwv]
  obtain ⟨b1, hb1⟩ : ∃ b, (rowOf t).1 = b := ⟨_, rfl⟩
  obtain ⟨b2, hb2⟩ : ∃ b, (rowOf t).2.1 = b := ⟨_, rfl⟩
  obtain ⟨n3, hn3⟩ : ∃ b, (rowOf t).2.2 = b := ⟨_, rfl⟩
  obtain ⟨d9, hd9⟩ : ∃ b, decide (t ≤ 9) = b := ⟨_, rfl⟩
  rw [hb1, hb2, hn3, hd9]
  have HQ := Lib.hid (show (rowOf t).1 = b1 ∧ (rowOf t).2.1 = b2 ∧ (rowOf t).2.2 = n3 ∧ decide (t ≤ 9) = d9 ∧ rdV g3 g6 g8 t = .func (.func K1) #[] cap1 from ⟨hb1, hb2, hn3, hd9, hrv⟩)
  clear hb1 hb2 hn3 hd9 hrv hwv
  go_upto_region 2 with fail
  have HRow := Lib.hid (Blk.new W1 164 #[.bool b1, .bool b2, .int .i64 (n3 : Nat), .func (.func K1) #[] cap1, .func (.func K2) #[] #[]])
  have HB2 := Lib.hid ((HB0.out.trans (HB1.out.mono (by have := HZ.out; omega))).alloc (by have := HB1.out.size; have := HZ.out; omega) (.cells #[.bool b1, .bool b2, .int .i64 (n3 : Nat), .func (.func K1) #[] cap1, .func (.func K2) #[] #[]] 164))
  have HX1b := Lib.hid (HX1a.out.alloc (.cells #[.bool b1, .bool b2, .int .i64 (n3 : Nat), .func (.func K1) #[] cap1, .func (.func K2) #[] #[]] 164))
  have HX2b := Lib.hid (HX2a.out.alloc (.cells #[.bool b1, .bool b2, .int .i64 (n3 : Nat), .func (.func K1) #[] cap1, .func (.func K2) #[] #[]] 164))
  have HE2 := Lib.hid (HE.out.below ((Below.refl W1.heap.size W1).alloc (Nat.le_refl _) (.cells #[.bool b1, .bool b2, .int .i64 (n3 : Nat), .func (.func K1) #[] cap1, .func (.func K2) #[] #[]] 164)))
  have HZ2 := Lib.hid (show (W1.alloc (.cells #[.bool b1, .bool b2, .int .i64 (n3 : Nat), .func (.func K1) #[] cap1, .func (.func K2) #[] #[]] 164)).heap.size = W1.heap.size + 1 ∧ W.heap.size + 2 ≤ W1.heap.size by
    refine ⟨by simp, ?_⟩
    have := HB1.out.size
    have := HZ.out
    omega)
  generalize W1.alloc (.cells #[.bool b1, .bool b2, .int .i64 (n3 : Nat), .func (.func K1) #[] cap1, .func (.func K2) #[] #[]] 164) = W2 at HRow HB2 HX1b HX2b HE2 HZ2 ⊢
  obtain ⟨r4, hr4⟩ : ∃ r, W1.heap.size = r := ⟨_, rfl⟩
  rw [hr4] at HRow HZ2 ⊢
  clear hr4 HB1 HE HX1a HX2a HX1 HX2 HB0 HZ HSo
  obtain ⟨c0, c1, c2, c3⟩ : W2.cell? ⟨W.heap.size, 0, none⟩ = some (.int .i64 (t : Nat)) ∧ W2.cell? ⟨W.heap.size, 1, none⟩ = some (.int .i64 (f : Nat)) ∧ W2.cell? ⟨W.heap.size, 2, none⟩ = some (.int .i64 (s : Nat)) ∧ W2.cell? ⟨W.heap.size, 3, none⟩ = some (.slice A n c) := ⟨HX1b.out.cell 0, HX1b.out.cell 1, HX1b.out.cell 2, HX1b.out.cell 3⟩
  obtain ⟨q0, q1, q2, q3⟩ : W2.cell? ⟨r4, 0, none⟩ = some (.bool b1) ∧ W2.cell? ⟨r4, 1, none⟩ = some (.bool b2) ∧ W2.cell? ⟨r4, 2, none⟩ = some (.int .i64 (n3 : Nat)) ∧ W2.cell? ⟨r4, 3, none⟩ = some (.func (.func K1) #[] cap1) := ⟨HRow.out.cell 0, HRow.out.cell 1, HRow.out.cell 2, HRow.out.cell 3⟩
  go_upto_region 3 with (first
    | (refine wpList_rowPut _ rfl (.tmp 6) (.tmp 20) 82 rfl W2.heap.size 82 (infC {} (.slice none 0 0) (.slice none 0 0)) (infC { typ := t, stream := s } (.slice none 0 0) (.slice none 0 0)) rfl rfl (Blk.new W2 82 _) infSize rfl (infC_one _ _ _ _ _ _ _) ?_
       intro W3 hb3 hg3
       have HI := Lib.hid hb3
       have hg := grown_trans (World.grownBy_alloc W2 (.cells (infC {} (.slice none 0 0) (.slice none 0 0)) 82) (some W2.heap.size)) hg3
       have HB3 := Lib.hid (HB2.out.grown hg HB2.out.size (fun g e => by injection e with e; have := HB2.out.size; omega))
       have HX1c := Lib.hid (HX1b.out.grown hg (fun e => by injection e with e; have := HX1b.out.lt; omega))
       have HX2c := Lib.hid (HX2b.out.grown hg (fun e => by injection e with e; have := HX2b.out.lt; omega))
       have HRc := Lib.hid (HRow.out.grown hg (fun e => by injection e with e; have := HRow.out.lt; omega))
       have HE3 := Lib.hid (show ExS W3 g3 g6 g8 from HE2.out.below ⟨hg.os, hg.tape, hg.output, hg.size, fun i hi => hg.block i hi (fun e => by injection e with e; omega)⟩)
       have HZ3 := Lib.hid (show W2.heap.size = r4 + 1 ∧ W.heap.size + 2 ≤ r4 from HZ2.out)
       clear hb3 hg3 hg)
    | fail)
  obtain ⟨gi, hgi⟩ : ∃ r, W2.heap.size = r := ⟨_, rfl⟩
  rw [hgi] at HI HZ3 ⊢
  clear hgi c0 c1 c2 c3 q0 q1 q2 q3 HX1b HX2b HRow HB2 HE2 HZ2
  obtain ⟨c0, c1, c2, c3⟩ : W3.cell? ⟨W.heap.size, 0, none⟩ = some (.int .i64 (t : Nat)) ∧ W3.cell? ⟨W.heap.size, 1, none⟩ = some (.int .i64 (f : Nat)) ∧ W3.cell? ⟨W.heap.size, 2, none⟩ = some (.int .i64 (s : Nat)) ∧ W3.cell? ⟨W.heap.size, 3, none⟩ = some (.slice A n c) := ⟨HX1c.out.cell 0, HX1c.out.cell 1, HX1c.out.cell 2, HX1c.out.cell 3⟩
  obtain ⟨q0, q1, q2, q3⟩ : W3.cell? ⟨r4, 0, none⟩ = some (.bool b1) ∧ W3.cell? ⟨r4, 1, none⟩ = some (.bool b2) ∧ W3.cell? ⟨r4, 2, none⟩ = some (.int .i64 (n3 : Nat)) ∧ W3.cell? ⟨r4, 3, none⟩ = some (.func (.func K1) #[] cap1) := ⟨HRc.out.cell 0, HRc.out.cell 1, HRc.out.cell 2, HRc.out.cell 3⟩
  have hn3 : n3 ≤ 255 := by rw [← HQ.out.2.2.1]; exact rowOf_fl t
  have HHas := Lib.hid (fun (k : Nat) (hk : k ≤ 255) (W' : World) (h4 : W'.cell? ⟨r4, 2, none⟩ = some (.int .i64 (n3 : Nat))) (h1 : W'.cell? ⟨W.heap.size, 1, none⟩ = some (.int .i64 (f : Nat))) => has_any k n3 f r4 W.heap.size W' h4 h1 (by omega) (by omega) (by omega))
  clear hn3
  obtain rfl : b1 = false := by rw [← HQ.out.1, HT0.out]; rfl
  obtain rfl : b2 = true := by rw [← HQ.out.2.1, HT0.out]; rfl
  obtain rfl : d9 = true := by rw [← HQ.out.2.2.2.1, HT0.out]; rfl
  have hKK : rdV g3 g6 g8 t = .func (.func 161) #[] #[] := by rw [HT0.out]; rfl
  have hKK := HQ.out.2.2.2.2.symm.trans hKK
  injection hKK with hK1 _ hc1
  injection hK1 with hK1
  subst hK1 hc1
  have hs0' : ¬ (s : Int) = 0 := by omega
  have he8 : (n3 &&& f &&& 8 != 0) = true := by
    have h := HP.out
    unfold hasF at h
    rwa [HQ.out.2.2.1] at h
  obtain ⟨e4, he4⟩ : ∃ b, (n3 &&& f &&& 4 != 0) = b := ⟨_, rfl⟩
  obtain ⟨e32, he32⟩ : ∃ b, (n3 &&& f &&& 32 != 0) = b := ⟨_, rfl⟩
  obtain ⟨e1, he1⟩ : ∃ b, (n3 &&& f &&& 1 != 0) = b := ⟨_, rfl⟩
  have HH4 := Lib.hid (HHas.out 4 (by omega))
  have HH8 := Lib.hid (HHas.out 8 (by omega))
  have HH32 := Lib.hid (HHas.out 32 (by omega))
  have HH1 := Lib.hid (HHas.out 1 (by omega))
  rw [he4] at HH4
  rw [he8] at HH8
  rw [he32] at HH32
  rw [he1] at HH1
  have HInf := Lib.hid (show info0 t f s = { typ := t, stream := s, flags := 0, endHeads := e4, padded := true, prio := e32, ack := false, endd := e1 } by
    obtain ⟨r1, _, r3, r4, _⟩ := HQ.out
    unfold info0 hasF
    rw [r1, r3, he4, he8, he32, he1, if_pos (of_decide_eq_true r4)]
    simp)
  clear he8 he4 he32 he1
  have hmf : ∀ (fn : Fn) (first cap : Array Value) (w : World), (Instr.makeFunc fn first cap).run Tryz.prog w = .ok (.func fn first cap) w := fun _ _ _ _ => rfl
  have g3' : W3.cell? ⟨gi, 3, none⟩ = some (.bool false) := HI.out.cell 3
  have g4 : W3.cell? ⟨gi, 4, none⟩ = some (.bool false) := HI.out.cell 4
  have g6' : W3.cell? ⟨gi, 6, none⟩ = some (.bool false) := HI.out.cell 6
  have g7 : W3.cell? ⟨gi, 7, none⟩ = some (.bool false) := HI.out.cell 7
  have f3 := HI.out.frozen 3
  have f4 := HI.out.frozen 4
  have f6 := HI.out.frozen 6
  have f7 := HI.out.frozen 7
  have n1 : ¬ W.heap.size = gi := by have := HZ3.out; omega
  have n2 : ¬ r4 = gi := by have := HZ3.out; omega
  have n1' : ¬ gi = W.heap.size := by have := HZ3.out; omega
  have n2' : ¬ gi = r4 := by have := HZ3.out; omega
  have HF0 := Lib.hid (show OpF W W3 gi r4 g3 g6 g8 _ _ _ from ⟨HI.out, HRc.out, HX1c.out, HX2c.out, HE3.out, HB3.out, HZ3.out⟩)
  have HS0 := Lib.hid h0
  clear h0
  go_wp2_with fail
  refine (HH4.out _ (HF0.out.r.cell 2) (HF0.out.f.cell 1)).mono ?_
  rintro e w' ⟨rfl, hw⟩
  subst w'
  go_wp2_with fail
  refine (HH8.out _ (HF0.out.r.cell 2) (HF0.out.f.cell 1)).mono ?_
  rintro e w' ⟨rfl, hw⟩
  subst w'
  go_wp2_with fail
  refine (HH32.out _ (HF0.out.r.cell 2) (HF0.out.f.cell 1)).mono ?_
  rintro e w' ⟨rfl, hw⟩
  subst w'
  have HFb := Lib.hid (((HF0.out.put 4 (.bool e4)).put 6 (.bool true)).put 7 (.bool e32))
  go_wp2_with fail
  refine (HH1.out _ (HFb.out.r.cell 2) (HFb.out.f.cell 1)).mono ?_
  rintro e w' ⟨rfl, hw⟩
  subst w'
  have HFc := Lib.hid (HFb.out.put 3 (.bool e1))
  go_upto_region 12 with fail
  clear HF0 HFb c0 c1 c2 c3 q0 q1 q2 q3 g3' g4 g6' g7 f3 f4 f6 f7 HI HRc HX1c HX2c HE3 HB3 HH1 HH4 HH8 HH32 HHas
  generalize (((W3.setCell ⟨gi, 4, none⟩ (.bool e4)).setCell ⟨gi, 6, none⟩ (.bool true)).setCell ⟨gi, 7, none⟩ (.bool e32)).setCell ⟨gi, 3, none⟩ (.bool e1) = X at *
  have c3 : X.cell? ⟨W.heap.size, 3, none⟩ = some (.slice A n c) := HFc.out.f.cell 3
  have g6 : X.cell? ⟨gi, 6, none⟩ = some (.bool true) := HFc.out.i.cell 6
  have g9 : X.cell? ⟨gi, 9, none⟩ = some (.int .i64 0) := HFc.out.i.cell 9
  have f9 := HFc.out.i.frozen 9
  have r3 : X.cell? ⟨r4, 3, none⟩ = some (.func (.func 161) #[] #[]) := HFc.out.r.cell 3
  have hrX := (HRd0.out.more HB.out).below HFc.out.b
  obtain ⟨ad, rfl, hadb, hcl⟩ := hrX.2 (by have := HN.out.2.2.1; omega)
  have hc0 : X.cell? ad = some (.int .u8 x.toNat) := by
    have h := hcl 0 (by have := HN.out.2.2.1; omega)
    rw [show ad.add 0 = ad by cases ad; rfl] at h
    exact h
  have HAd := Lib.hid hadb
  obtain ⟨p, hp⟩ : ∃ p, x.toNat = p := ⟨_, rfl⟩
  have hp255 : p ≤ 255 := by have := x.toNat_lt; omega
  rw [hp] at hc0
  obtain ⟨u, hu⟩ : ∃ u, n - p - 1 = u := ⟨_, rfl⟩
  have hpn : p < n := by have := HN.out.2.2.1; omega
  obtain ⟨A', hsl, hrun⟩ := cut_subZ (P := Tryz.prog) (t := 22) (k := 1) (u := u) byteP hrX (by omega) HN.out.1 1 ((n : Int) - (p : Int)) rfl (by omega)
  have HSl := Lib.hid hsl
  have k1 : ((n : Int) == 0) = false := by simp; omega
  have k1' : ((n : Int) = 0) = False := by simp; omega
  have k2 : ((n : Int) ≤ (p : Int)) = False := by simp; omega
  have k2' : (n ≤ p) = False := by simp; omega
  have i1 : (0 : Int) < (n : Int) := by omega
  have HPx := Lib.hid (show x.toNat = p ∧ n - p - 1 = u ∧ p < n from ⟨hp, hu, hpn⟩)
  have HFd := Lib.hid (HFc.out.put 9 (.int .i64 (p : Nat)))
  have hub : u ≤ 1000000000000 := by have := HN.out.2.1; omega
  have HUb := Lib.hid hub
  have k3 := wsub n p hpn HN.out.2.1
  have k4 := (wnat p hp255).2
  have k5 := (wnat p hp255).1
  clear hrX hcl hadb hp hu hpn hsl hp255 hub
  go_wp2_with fail
  generalize X.setCell ⟨gi, 9, none⟩ (.int .i64 (p : Nat)) = Y at *
  have hi := HFd.out.i
  have hbI : Blk Y gi 82 (infC ({ info0 t f s with pad := p } : Inf) (.slice none 0 0) (.slice none 0 0)) := by rw [HInf.out]; exact hi
  have hsY := (show Rd Y W.heap.size A' u (((x :: q).drop 1).take u) from HSl.out.keep fun ad2 hlt => World.cell?_of_block (HFd.out.b.block _ hlt |>.trans (HFc.out.b.block _ hlt).symm))
  refine (rest_rd gi ({ info0 t f s with pad := p } : Inf) A' u (c - 1) W.heap.size (q.take u) Y hbI hsY HFd.out.b.size HUb.out rfl (by rw [HInf.out, HT0.out]; rfl)).mono ?_
  intro e w' h
  obtain ⟨hg, hm⟩ := h
  have HFz := Lib.hid (HFd.out.z.grown hg (fun e => by injection e with e; have := HFd.out.n; omega))
  have HBw := Lib.hid (HFd.out.b.grown hg HFd.out.b.size (fun g e => by injection e with e; have := HFd.out.n; omega))
  have hrd : rd ({ info0 t f s with pad := p } : Inf) (q.take u) = .ok { ({ info0 t f s with pad := p } : Inf) with data := q.take u } := by rw [HInf.out, HT0.out]; rfl
  rw [hrd] at hm
  obtain ⟨rfl, sv, dv, hbj, hsv, hdv⟩ := hm
  obtain ⟨A5, c5, rfl, _, _⟩ := hsv.form
  obtain ⟨A6, c6, rfl, _, _, _⟩ := hdv.form
  have HBj := Lib.hid hbj
  have HSv := Lib.hid hsv
  have HDv := Lib.hid hdv
  have HYs := Lib.hid HFd.out.b.size
  clear hbj hsv hdv hrd hg hi hbI hsY
  go_wp2_with (first
    | (refine wpList_rowGet _ rfl (.tmp 6) 82 rfl gi 82 _ rfl HBj.out _ Tryz.underlying82 rfl infSize ?_)
    | (refine wpList_rowPut _ rfl (.tmp 2) (.tmp 100) 82 rfl (W.heap.size + 1) 82 (infC {} (.slice none 0 0) (.slice none 0 0)) _ rfl rfl HFz.out infSize rfl (infC_one _ _ _ _ _ _ _) ?_
       intro W5 hb5 hg5)
    | fail)
  refine bodyPost_ret (results_open _ _ (W.heap.size + 1) _ _ _ _ rfl rfl hb5) rfl ⟨HBw.out.grown hg5 HBw.out.size (fun g e => by injection e with e; omega), ?_⟩
  have hqu : q.take (q.length - x.toNat) = q.take u := by congr 1; have := HPx.out; have := HN.out.2.2.2; omega
  rw [HOp.out, hqu, HPx.out.1]
  refine ⟨_, _, rfl, ew_base (HSv.out.grown hg5 (.inr fun e => ?_)) HYs.out, (HDv.out.grown hg5 (.inr fun e => ?_)).base HYs.out⟩
  · have h1 := (HSv.out.lt _ e).1
    have h2 := HFz.out.lt
    have := HFd.out.z.lt
    omega
  · have h1 := (HDv.out.lt e).2
    have := HFd.out.z.lt
    omega
end Go.Proofs.YtdkfbkjmhgbppaaGreatDoor
end

section
namespace Go.Proofs.YtdkfbkjmhgbppaaGreatDoor
open Go.RowKit Go.Own Go.Own.Im Go.Own.Cx Go.Own.Fr
attribute [local go_sem] Oper.semAt_some
theorem strAt_upd {M : Cv} {id : Int} {s s' : Sv} (h : strAt M id = some s) (e : s'.id = s.id) (M' : Cv) (hM : M'.strs = updS M.strs s') : strAt M' id = some s' := by
  unfold strAt at h ⊢
  rw [hM, updS, List.find?_map]
  have hp : ((fun x : Sv => decide ((x.id : Int) = id)) ∘ fun x : Sv => if x.id = s'.id then s' else x) = fun x : Sv => decide ((x.id : Int) = id) := by
    funext x
    show decide (((if x.id = s'.id then s' else x).id : Int) = id) = _
    by_cases h2 : x.id = s'.id
    · rw [if_pos h2, h2]
    · rw [if_neg h2]
  rw [hp, h]
  show some (if s.id = s'.id then s' else s) = _
  rw [if_pos e.symm]
/-- A stream behind data of n bytes in a frame of sz. -/
def dataS (s : Sv) (sz n : Nat) (fin : Bool) : Sv := endS { s with inw := if fin then s.inw - sz else s.inw - sz + ((sz - n : Nat) : Int), held := s.held + n } fin
def dataE (M : Cv) (s : Sv) (l : List UInt8) (fin : Bool) (A : Option Addr) (c : Nat) : List EvV :=
  if 0 < l.length ∨ fin = true then M.evs ++ [({ kind := 2, stream := s.id, fin := fin, ba := A, bc := c, by_ := l } : EvV)] else M.evs
def dataO (M : Cv) (s : Sv) (g : Nat) (fin : Bool) : List UInt8 := (M.out ++ frameB 8 0 0 (be g 4)) ++ (if fin = true then [] else frameB 8 0 s.id (be g 4))
/-- An end behind it. -/
def dataM (M : Cv) (s : Sv) (sz : Nat) (l : List UInt8) (fin : Bool) (A : Option Addr) (c : Nat) : Cv :=
  { M with inw := M.inw - sz + ((sz - l.length : Nat) : Int), strs := updS M.strs (dataS s sz l.length fin), out := dataO M s (sz - l.length) fin, evs := dataE M s l fin A c }
theorem evC_data (k st : Nat) (f : Bool) (A : Option Addr) (c : Nat) (l : List UInt8) : evC { kind := k, stream := st, fin := f, ba := A, bc := c, by_ := l } = #[.int .i64 (k : Nat), .int .i64 (st : Nat), .int .i64 0, .int .i64 0, .bool f, .slice none 0 0, .slice A l.length c] := rfl
theorem wsub2 (sz n g : Nat) (h : n < sz) (hs : sz ≤ 1000000) (e : sz - n = g) : wrap64 ((sz : Int) - (n : Int)) = (g : Int) := by unfold wrap64; omega
theorem wadd2 (a n : Nat) (h : a ≤ 1000000000) (hs : n ≤ 1000000) : wrap64 ((a : Int) + (n : Int)) = ((a + n : Nat) : Int) ∧ IntKind.i64.wrap ((a : Int) + (n : Int)) = ((a + n : Nat) : Int) := ⟨by unfold wrap64; omega, by rw [IntKind.wrap_i64]; omega⟩
theorem evd_tag {w0 W : World} {ow0 OW : Nat → Tg} {b : Nat} {M : Cv} {L : Lay} {B n c st : Nat} {A : Option Addr} {l : List UInt8} {fin : Bool} (hF : Fr w0 ow0 W OW) (h : CN W OW b M L) (hr : Rd W B A n l) (hB : B ≤ W.heap.size) (hc : n ≤ c) (hown : 0 < n → ∀ ad, A = some ad → OW ad.block = .no ∧ w0.heap.size ≤ ad.block) :
    ∃ OW', CN W OW' b M L ∧ Fr w0 ow0 W OW' ∧ EvOk W OW' { kind := 2, stream := st, fin := fin, ba := A, bc := c, by_ := l } ∧ ∀ g, B ≤ g → OW' g = OW g := by
  have hlen : l.length = n := hr.1
  rcases Nat.eq_zero_or_pos n with h0 | h0
  · refine ⟨OW, h, hF, ⟨⟨Nat.le_refl _, Cm.RS.nil, fun h => absurd h (Nat.lt_irrefl _)⟩, ⟨by show l.length ≤ c; omega, by show Rd W W.heap.size A l.length l; rw [hlen]; exact hr.more hB, fun hp => by have hp : 0 < l.length := hp; omega⟩⟩, fun _ _ => rfl⟩
  · obtain ⟨ad, rfl, hab, _⟩ := hr.2 h0
    obtain ⟨hno, hge⟩ := hown h0 ad rfl
    refine ⟨upd OW ad.block .evd, h.tag hno (by omega) .evd, ⟨hF.os, hF.tape, hF.output, hF.size, hF.keep, fun g hlt ho => by rw [upd_other _ _ (by omega)]; exact hF.no g hlt ho⟩, ⟨⟨Nat.le_refl _, Cm.RS.nil, fun h => absurd h (Nat.lt_irrefl _)⟩, ⟨by show l.length ≤ c; omega, by show Rd W W.heap.size (some ad) l.length l; rw [hlen]; exact hr.more hB, fun _ ad2 e => by
      have e : some ad = some ad2 := e
      injection e with e
      rw [← e]
      exact upd_same _ _ _⟩⟩, fun g hg => upd_other _ _ (by omega)⟩
set_option maxHeartbeats 16000000 in
set_option maxRecDepth 100000 in
theorem data_ok (w0 : World) (ow0 : Nat → Tg) (w : World) (ow : Nat → Tg) (b : Nat) (M : Cv) (L : Lay) (s : Sv) (i : Inf) (sv : Value) (A : Option Addr) (n c sz g : Nat) (l : List UInt8) (hF : Fr w0 ow0 w ow) (h : CN w ow b M L) (hk : knownB M s.id = true) (hst : strAt M (s.id : Int) = some s) (hi : i.stream = s.id) (ho1 : s.other = 1) (ho3 : s.own ≠ 3) (hid : 0 < s.id ∧ s.id ≤ 2147483647) (hu : (M.strs.map (·.id)).Nodup)
    (hr : Rd w w.heap.size A n l) (hown : 0 < n → ∀ ad, A = some ad → ow ad.block = .no ∧ w0.heap.size ≤ ad.block) (hc : n ≤ c) (hn : n < sz) (hsz : sz ≤ 65535) (hg : sz - n = g) (hw1 : (sz : Int) ≤ M.inw ∧ M.inw ≤ 65535) (hw2 : (sz : Int) ≤ s.inw ∧ s.inw ≤ 65535) (hh : s.held ≤ 1000000) (ho : M.out.length ≤ 900000000) (hev : M.evs.length ≤ 900000) :
    Calls Tryz.prog 133 #[.pointer (some ⟨b, 0, none⟩), .agg (infC i sv (.slice A n c)), .int .i64 (sz : Nat)] w (CPostS w0 ow0 b (fun M' => M' = dataM M s sz l i.endd A c) (.tuple #[])) := by
  obtain ⟨h1, hmem, _⟩ := at_some (L := L) hst
  have hlen : l.length = n := hr.1
  have hwf : (Lit.int .i64 (s.id : Int)).wf = true := by simp [Lit.wf, IntKind.min, IntKind.max, IntKind.bits, IntKind.signed]; omega
  have HX := Lib.hid (Blk.new w 82 (infC i sv (.slice A n c)))
  have HB0 := Lib.hid ((Below.refl w.heap.size w).alloc (Nat.le_refl _) (.cells (infC i sv (.slice A n c)) 82))
  have HC := Lib.hid h
  have HR := Lib.hid hr
  have HOwn := Lib.hid hown
  have HF0 := Lib.hid hF
  have HH := Lib.hid (show _ ∧ _ ∧ _ ∧ _ ∧ _ ∧ _ ∧ _ ∧ _ from ⟨hmem, ho1, ho3, hid, hu, hc, hst, hi⟩)
  have HNm := Lib.hid (show _ ∧ _ ∧ _ ∧ _ ∧ _ ∧ _ ∧ _ ∧ _ from ⟨hn, hsz, hg, hw1, hw2, hh, ho, hev⟩)
  have HLen := Lib.hid hlen
  have hid0 := idle_ok (w.alloc (.cells (infC i sv (.slice A n c)) 82)) ow b M L s.id (h.below HB0.out) hk hwf
  rw [h1] at hid0
  have HId := Lib.hid hid0
  have hgw := wsub2 sz n g hn (by omega) hg
  have HGw := Lib.hid hgw
  have HGs := Lib.hid (show (sz : Int) - (n : Int) = (g : Int) by omega)
  have HXo := Lib.hid (h.new w.heap.size (Nat.le_refl _))
  clear hF h hk hst ho1 ho3 hu hr hown hc hg hw1 hw2 hh ho hev h1 hmem hlen hwf hid0 hgw hid
  go_enter Tryz.func133, Tryz.ntmps133
  go_upto_region 1 with fail
  generalize w.alloc (.cells (infC i sv (.slice A n c)) 82) = W0 at *
  have HC0 := Lib.hid (HC.out.below HB0.out)
  have x2 : W0.cell? ⟨w.heap.size, 2, none⟩ = some (.int .i64 (i.stream : Nat)) := HX.out.cell 2
  rw [hi] at x2
  have c8 : W0.cell? ⟨b, 8, none⟩ = some (.pointer (some ⟨L.ib, 0, none⟩)) := HC0.out.blk.cell 8
  go_wp2_with fail
  refine HId.out.mono ?_
  rintro e w1 ⟨rfl, hw⟩
  subst w1
  have HT1 := Lib.hid (take_yes W0 L.ib M.inw sz HC0.out.p.inw (.inl HNm.out.2.2.2.1.1) (by have := HNm.out; omega) (by have := HNm.out; omega))
  go_wp2_with fail
  refine HT1.out.mono ?_
  rintro e w1 ⟨rfl, hw⟩
  have hin := HC0.out.inws (M.inw - (sz : Int))
  rw [← hw] at hin
  have HC1 := Lib.hid hin.1
  have HF1 := Lib.hid ((Fr.below HB0.out ow).trans hin.2)
  have HX1 := Lib.hid (hin.2.blk HX.out HXo.out)
  have hs1 := HC1.out.p.strs s HH.out.1
  have HI1 := Lib.hid hs1.inw
  have d2 : w1.cell? ⟨(L.s s.id).sb, 2, none⟩ = some (.int .i64 (s.other : Nat)) := hs1.blk.cell 2
  have d3 : w1.cell? ⟨(L.s s.id).sb, 3, none⟩ = some (.pointer (some ⟨(L.s s.id).ib, 0, none⟩)) := hs1.blk.cell 3
  rw [HH.out.2.1] at d2
  have HT2 := Lib.hid (take_yes w1 (L.s s.id).ib s.inw sz HI1.out (.inl HNm.out.2.2.2.2.1.1) (by have := HNm.out; omega) (by have := HNm.out; omega))
  clear hin hs1 x2 c8 hw
  go_wp2_with fail
  refine HT2.out.mono ?_
  rintro e w2 ⟨rfl, hw⟩
  have hsn := HC1.out.sins HH.out.1 (s.inw - (sz : Int))
  rw [← hw] at hsn
  have HC2 := Lib.hid hsn.1
  have HF2 := Lib.hid (HF1.out.trans hsn.2)
  have HX2 := Lib.hid (hsn.2.blk HX1.out (show ow w.heap.size = .no from HXo.out))
  have x17 : w2.cell? ⟨w.heap.size, 17, none⟩ = some (.slice A n c) := HX2.out.cell 17
  have HG1 := Lib.hid (gives_conn w2 ow b _ L g HC2.out (by have := HNm.out; omega) (by have := HNm.out; omega) (show -2147483647 ≤ M.inw - (sz : Int) ∧ M.inw - (sz : Int) ≤ 2147483647 by have := HNm.out; omega) (show M.inw - (sz : Int) + (g : Int) ≤ 2147483647 by have := HNm.out; omega) (by have := HNm.out; show M.out.length ≤ _; omega))
  have hgw := HGw.out
  clear hsn hw d2 d3 HI1
  go_wp2_with fail
  clear hgw x17
  rw [HGs.out]
  refine HG1.out.mono ?_
  rintro e w3 ⟨ow3, L3, rfl, hc3, hf3, hl3⟩
  have hst3 := strAt_upd (s' := { s with inw := s.inw - (sz : Int) }) HH.out.2.2.2.2.2.2.1 rfl { M with inw := M.inw - (sz : Int) + (g : Int), strs := updS M.strs { s with inw := s.inw - (sz : Int) }, out := M.out ++ frameB 8 0 0 (be g 4) } rfl
  have HC3 := Lib.hid hc3
  have HF3 := Lib.hid (HF2.out.trans hf3)
  have HX3 := Lib.hid (hf3.blk HX2.out HXo.out)
  have HXo3 := Lib.hid (show ow3 w.heap.size = .no from hf3.no _ HX2.out.lt HXo.out)
  have HS3 := Lib.hid (show (L3.s s.id).sb = (L.s s.id).sb by rw [hl3])
  have HSt3 := Lib.hid hst3
  obtain ⟨fin, hfin⟩ : ∃ f, i.endd = f := ⟨_, rfl⟩
  have x3 : w3.cell? ⟨w.heap.size, 3, none⟩ = some (.bool i.endd) := HX3.out.cell 3
  rw [hfin] at x3
  have x2 : w3.cell? ⟨w.heap.size, 2, none⟩ = some (.int .i64 (i.stream : Nat)) := HX3.out.cell 2
  rw [hi] at x2
  have x17 : w3.cell? ⟨w.heap.size, 17, none⟩ = some (.slice A n c) := HX3.out.cell 17
  obtain ⟨sb, hsb⟩ : ∃ g, (L.s s.id).sb = g := ⟨_, rfl⟩
  rw [hsb] at HS3 ⊢
  have hk0 := HOwn.out
  have HFin := Lib.hid hfin
  clear hst3 hc3 hf3 hl3 hsb hfin
  cases fin with
  | true =>
    have HC4 := Lib.hid (show CN w3 ow3 b { M with inw := M.inw - (sz : Int) + (g : Int), strs := updS M.strs { s with inw := s.inw - (sz : Int) }, out := dataO M s g true } L3 from by unfold dataO; rw [if_pos rfl, List.append_nil]; exact HC3.out)
    have k4 : 0 < n ∨ true = true := .inr rfl
    clear hk0
    obtain ⟨s4, hs4e⟩ : ∃ x : Sv, x = { s with inw := s.inw - (sz : Int) } := ⟨_, rfl⟩
    have hc4' := HC4.out
    rw [← hs4e] at hc4'
    have hi4 : s4.id = s.id := by rw [hs4e]
    have ho4 : s4.own = s.own := by rw [hs4e]
    have hh4 : s4.held = s.held := by rw [hs4e]
    have HE4 := Lib.hid (show _ ∧ _ ∧ _ from ⟨hs4e, hi4, ho4⟩)
    have hm4 : s4 ∈ updS M.strs s4 := mem_updS HH.out.1 hi4.symm
    have hs4 := hc4'.p.strs s4 hm4
    have hb4 := hs4.blk
    have hq4 : (L3.s s4.id).sb = sb := by rw [hi4]; exact HS3.out
    rw [hq4] at hb4
    have d9 : w3.cell? ⟨sb, 9, none⟩ = some (.int .i64 (s4.held : Nat)) := hb4.cell 9
    rw [hh4] at d9
    have f9 := hb4.frozen 9
    have hk9 := hc4'.strcell (s := s4) (s' := { s4 with held := s.held + n }) hm4 rfl 9 (.int .i64 ((s.held + n : Nat) : Int)) rfl rfl rfl rfl
    rw [hq4, show ((s.held + n : Nat) : Int) = (s.held : Int) + (n : Int) from rfl] at hk9
    have HK9 := Lib.hid hk9
    have hwh := wadd2 s.held n (by have := HNm.out; omega) (by have := HNm.out; omega)
    have hwh1 := hwh.1
    have hwh2 := hwh.2
    clear hs4 hb4 hk9 hwh hs4e hc4' hi4 ho4 hh4 hm4 hq4
    go_upto_region 19 with fail
    go_region
    obtain ⟨W5, hW5⟩ : ∃ W, W = (w3.setCell ⟨sb, 9, none⟩ (.int .i64 ((s.held : Int) + (n : Int)))).drew := ⟨_, rfl⟩
    rw [← hW5]
    obtain ⟨s5, hs5e⟩ : ∃ x : Sv, x = { s4 with held := s.held + n } := ⟨_, rfl⟩
    have hc5 : CN W5 ow3 b { M with inw := M.inw - (sz : Int) + (g : Int), strs := updS (updS M.strs s4) { s4 with held := s.held + n }, out := dataO M s g true } L3 := hW5 ▸ HK9.out.1.drew
    rw [updS_two M.strs (s1 := s4) (s2 := { s4 with held := s.held + n }) rfl, ← hs5e] at hc5
    have HC5 := Lib.hid hc5
    have HE5 := Lib.hid (show s5 = { s4 with held := s.held + n } ∧ s5.id = s.id ∧ s5.own = s.own from ⟨hs5e, by rw [hs5e]; exact HE4.out.2.1, by rw [hs5e]; exact HE4.out.2.2⟩)
    have HF5 := Lib.hid (show Fr w ow W5 ow3 from hW5 ▸ (HF3.out.trans HK9.out.2).drew)
    have HX5 := Lib.hid (show Blk W5 w.heap.size 82 (infC i sv (.slice A n c)) from hW5 ▸ HK9.out.2.blk HX3.out HXo3.out)
    have x3' : W5.cell? ⟨w.heap.size, 3, none⟩ = some (.bool i.endd) := HX5.out.cell 3
    rw [HFin.out] at x3'
    have x2' : W5.cell? ⟨w.heap.size, 2, none⟩ = some (.int .i64 (i.stream : Nat)) := HX5.out.cell 2
    rw [hi] at x2'
    have x17' : W5.cell? ⟨w.heap.size, 17, none⟩ = some (.slice A n c) := HX5.out.cell 17
    have hr5 := HF5.out.rd HR.out (Nat.le_refl _) (fun hp ad e => (HOwn.out hp ad e).1)
    have HR5 := Lib.hid hr5
    clear hwh1 hwh2 hW5 hc5 HK9 HC4 x3 x2 x17 d9 f9 hr5 hs5e
    rcases Nat.eq_zero_or_pos n with hn0 | hn0
    · have k5 : ((0 : Int) < (n : Int)) = False := by simp; omega
      have k5' : (0 < n) = False := by simp; omega
      clear hn0
      have htg := evd_tag (st := s.id) (fin := true) (HF0.out.trans HF5.out) HC5.out HR5.out HF5.out.size HH.out.2.2.2.2.2.1 (fun hp ad e => ⟨HF5.out.no _ (by obtain ⟨ad2, e2, hlt, _⟩ := HR.out.2 hp; rw [e] at e2; injection e2 with e2; rw [e2]; exact hlt) (HOwn.out hp ad e).1, (HOwn.out hp ad e).2⟩)
      obtain ⟨OW6, hc6, hf6, hev6, hno6⟩ := htg
      have HF6 := Lib.hid hf6
      have HXo6 := Lib.hid (show OW6 w.heap.size = .no from (hno6 _ (Nat.le_refl _)).trans HXo3.out)
      have HTl := tell_anyL W5 OW6 b _ L3 { kind := 2, stream := s.id, fin := true, ba := A, bc := c, by_ := l } hc6 hev6 (by have := HNm.out; show M.evs.length ≤ _; omega)
      rw [evC_data, HLen.out] at HTl
      have HTl := Lib.hid HTl
      clear hc6 hf6 hev6 hno6
      go_wp2_with fail
      clear x3' x2' x17'
      refine HTl.out.mono ?_
      rintro e w7 ⟨ow7, L7, rfl, hc7, hf7, hl7⟩
      have HX7 := Lib.hid (hf7.blk HX5.out HXo6.out)
      have x3' : w7.cell? ⟨w.heap.size, 3, none⟩ = some (.bool i.endd) := HX7.out.cell 3
      rw [HFin.out] at x3'
      have HEn := ends_any w7 ow7 b _ L7 s5 true hc7 (mem_updS HH.out.1 HE5.out.2.1.symm) (by rw [HE5.out.2.2]; exact HH.out.2.2.1) (by show ((updS M.strs _).map (·.id)).Nodup; rw [updS_ids]; exact HH.out.2.2.2.2.1)
      rw [show (L7.s s5.id).sb = sb from by rw [hl7, HE5.out.2.1]; exact HS3.out] at HEn
      have HEn := Lib.hid HEn
      have HF7 := Lib.hid (HF6.out.trans hf7)
      clear hc7 hf7 hl7
      go_wp2_with fail
      clear x3'
      refine HEn.out.mono ?_
      intro e w8 hp
      obtain rfl := hp.ret
      have HP := Lib.hid hp
      clear hp
      go_wp2
      go_end0
      obtain ⟨ow8, L8, _, hc8, hf8⟩ := HP.out
      refine ⟨_, rfl, ow8, L8, rfl, ?_, HF7.out.trans hf8⟩
      have e8 : dataM M s sz l i.endd A c = { M with inw := M.inw - (sz : Int) + (g : Int), strs := updS (updS M.strs s5) (endS s5 true), out := dataO M s g true, evs := M.evs ++ [({ kind := 2, stream := s.id, fin := true, ba := A, bc := c, by_ := l } : EvV)] } := by
        rw [updS_two M.strs (s1 := s5) (s2 := endS s5 true) (by cases HE5.out.1; rfl)]
        unfold dataM dataE dataS
        rw [HFin.out, HLen.out, HNm.out.2.2.1, if_pos (.inr rfl), HE5.out.1, HE4.out.1]
        rfl
      rw [e8]
      exact hc8
    · have k5 : ((0 : Int) < (n : Int)) = True := by simp; omega
      have k5' : (0 < n) = True := by simp; omega
      clear hn0
      have htg := evd_tag (st := s.id) (fin := true) (HF0.out.trans HF5.out) HC5.out HR5.out HF5.out.size HH.out.2.2.2.2.2.1 (fun hp ad e => ⟨HF5.out.no _ (by obtain ⟨ad2, e2, hlt, _⟩ := HR.out.2 hp; rw [e] at e2; injection e2 with e2; rw [e2]; exact hlt) (HOwn.out hp ad e).1, (HOwn.out hp ad e).2⟩)
      obtain ⟨OW6, hc6, hf6, hev6, hno6⟩ := htg
      have HF6 := Lib.hid hf6
      have HXo6 := Lib.hid (show OW6 w.heap.size = .no from (hno6 _ (Nat.le_refl _)).trans HXo3.out)
      have HTl := tell_anyL W5 OW6 b _ L3 { kind := 2, stream := s.id, fin := true, ba := A, bc := c, by_ := l } hc6 hev6 (by have := HNm.out; show M.evs.length ≤ _; omega)
      rw [evC_data, HLen.out] at HTl
      have HTl := Lib.hid HTl
      clear hc6 hf6 hev6 hno6
      go_wp2_with fail
      clear x3' x2' x17'
      refine HTl.out.mono ?_
      rintro e w7 ⟨ow7, L7, rfl, hc7, hf7, hl7⟩
      have HX7 := Lib.hid (hf7.blk HX5.out HXo6.out)
      have x3' : w7.cell? ⟨w.heap.size, 3, none⟩ = some (.bool i.endd) := HX7.out.cell 3
      rw [HFin.out] at x3'
      have HEn := ends_any w7 ow7 b _ L7 s5 true hc7 (mem_updS HH.out.1 HE5.out.2.1.symm) (by rw [HE5.out.2.2]; exact HH.out.2.2.1) (by show ((updS M.strs _).map (·.id)).Nodup; rw [updS_ids]; exact HH.out.2.2.2.2.1)
      rw [show (L7.s s5.id).sb = sb from by rw [hl7, HE5.out.2.1]; exact HS3.out] at HEn
      have HEn := Lib.hid HEn
      have HF7 := Lib.hid (HF6.out.trans hf7)
      clear hc7 hf7 hl7
      go_wp2_with fail
      clear x3'
      refine HEn.out.mono ?_
      intro e w8 hp
      obtain rfl := hp.ret
      have HP := Lib.hid hp
      clear hp
      go_wp2
      go_end0
      obtain ⟨ow8, L8, _, hc8, hf8⟩ := HP.out
      refine ⟨_, rfl, ow8, L8, rfl, ?_, HF7.out.trans hf8⟩
      have e8 : dataM M s sz l i.endd A c = { M with inw := M.inw - (sz : Int) + (g : Int), strs := updS (updS M.strs s5) (endS s5 true), out := dataO M s g true, evs := M.evs ++ [({ kind := 2, stream := s.id, fin := true, ba := A, bc := c, by_ := l } : EvV)] } := by
        rw [updS_two M.strs (s1 := s5) (s2 := endS s5 true) (by cases HE5.out.1; rfl)]
        unfold dataM dataE dataS
        rw [HFin.out, HLen.out, HNm.out.2.2.1, if_pos (.inr rfl), HE5.out.1, HE4.out.1]
        rfl
      rw [e8]
      exact hc8
  | false =>
    have hgw := HGw.out
    have HG2 := Lib.hid (gives_str w3 ow3 b _ L3 { s with inw := s.inw - (sz : Int) } g HC3.out HSt3.out HH.out.2.2.2.1 (by have := HNm.out; omega) (by have := HNm.out; omega) (show -2147483647 ≤ s.inw - (sz : Int) ∧ s.inw - (sz : Int) ≤ 2147483647 by have := HNm.out; omega) (show s.inw - (sz : Int) + (g : Int) ≤ 2147483647 by have := HNm.out; omega) (by have := HNm.out; show (M.out ++ frameB 8 0 0 (be g 4)).length ≤ _; rw [List.length_append, frameB_len, be_len]; omega))
    go_wp2_with fail
    clear hgw x17 x2 x3
    rw [HGs.out]
    refine HG2.out.mono ?_
    rintro e w4 ⟨ow4, L4, rfl, hc4, hf4, hl4⟩
    have e4 := updS_two M.strs (s1 := { s with inw := s.inw - (sz : Int) }) (s2 := { s with inw := s.inw - (sz : Int) + (g : Int) }) rfl
    have hc4 : CN w4 ow4 b { M with inw := M.inw - (sz : Int) + (g : Int), strs := updS (updS M.strs { s with inw := s.inw - (sz : Int) }) { s with inw := s.inw - (sz : Int) + (g : Int) }, out := dataO M s g false } L4 := hc4
    rw [e4] at hc4
    have HC4 := Lib.hid hc4
    have HF4 := Lib.hid (HF3.out.trans hf4)
    have HX4 := Lib.hid (hf4.blk HX3.out HXo3.out)
    have HXo4 := Lib.hid (show ow4 w.heap.size = .no from hf4.no _ HX3.out.lt HXo3.out)
    have HS4 := Lib.hid (show (L4.s s.id).sb = sb by rw [hl4]; exact HS3.out)
    have x3 : w4.cell? ⟨w.heap.size, 3, none⟩ = some (.bool i.endd) := HX4.out.cell 3
    rw [HFin.out] at x3
    have x2 : w4.cell? ⟨w.heap.size, 2, none⟩ = some (.int .i64 (i.stream : Nat)) := HX4.out.cell 2
    rw [hi] at x2
    have x17 : w4.cell? ⟨w.heap.size, 17, none⟩ = some (.slice A n c) := HX4.out.cell 17
    clear e4 hc4 hf4 hl4 HC3 HX3 HXo3 HS3 HSt3 HF3 hk0
    obtain ⟨s4, hs4e⟩ : ∃ x : Sv, x = { s with inw := s.inw - (sz : Int) + (g : Int) } := ⟨_, rfl⟩
    have hc4' := HC4.out
    rw [← hs4e] at hc4'
    have hi4 : s4.id = s.id := by rw [hs4e]
    have ho4 : s4.own = s.own := by rw [hs4e]
    have hh4 : s4.held = s.held := by rw [hs4e]
    have HE4 := Lib.hid (show _ ∧ _ ∧ _ from ⟨hs4e, hi4, ho4⟩)
    have hm4 : s4 ∈ updS M.strs s4 := mem_updS HH.out.1 hi4.symm
    have hs4 := hc4'.p.strs s4 hm4
    have hb4 := hs4.blk
    have hq4 : (L4.s s4.id).sb = sb := by rw [hi4]; exact HS4.out
    rw [hq4] at hb4
    have d9 : w4.cell? ⟨sb, 9, none⟩ = some (.int .i64 (s4.held : Nat)) := hb4.cell 9
    rw [hh4] at d9
    have f9 := hb4.frozen 9
    have hk9 := hc4'.strcell (s := s4) (s' := { s4 with held := s.held + n }) hm4 rfl 9 (.int .i64 ((s.held + n : Nat) : Int)) rfl rfl rfl rfl
    rw [hq4, show ((s.held + n : Nat) : Int) = (s.held : Int) + (n : Int) from rfl] at hk9
    have HK9 := Lib.hid hk9
    have hwh := wadd2 s.held n (by have := HNm.out; omega) (by have := HNm.out; omega)
    have hwh1 := hwh.1
    have hwh2 := hwh.2
    clear hs4 hb4 hk9 hwh hs4e hc4' hi4 ho4 hh4 hm4 hq4
    go_upto_region 19 with fail
    go_region
    obtain ⟨W5, hW5⟩ : ∃ W, W = (w4.setCell ⟨sb, 9, none⟩ (.int .i64 ((s.held : Int) + (n : Int)))).drew := ⟨_, rfl⟩
    rw [← hW5]
    obtain ⟨s5, hs5e⟩ : ∃ x : Sv, x = { s4 with held := s.held + n } := ⟨_, rfl⟩
    have hc5 : CN W5 ow4 b { M with inw := M.inw - (sz : Int) + (g : Int), strs := updS (updS M.strs s4) { s4 with held := s.held + n }, out := dataO M s g false } L4 := hW5 ▸ HK9.out.1.drew
    rw [updS_two M.strs (s1 := s4) (s2 := { s4 with held := s.held + n }) rfl, ← hs5e] at hc5
    have HC5 := Lib.hid hc5
    have HE5 := Lib.hid (show s5 = { s4 with held := s.held + n } ∧ s5.id = s.id ∧ s5.own = s.own from ⟨hs5e, by rw [hs5e]; exact HE4.out.2.1, by rw [hs5e]; exact HE4.out.2.2⟩)
    have HF5 := Lib.hid (show Fr w ow W5 ow4 from hW5 ▸ (HF4.out.trans HK9.out.2).drew)
    have HX5 := Lib.hid (show Blk W5 w.heap.size 82 (infC i sv (.slice A n c)) from hW5 ▸ HK9.out.2.blk HX4.out HXo4.out)
    have x3' : W5.cell? ⟨w.heap.size, 3, none⟩ = some (.bool i.endd) := HX5.out.cell 3
    rw [HFin.out] at x3'
    have x2' : W5.cell? ⟨w.heap.size, 2, none⟩ = some (.int .i64 (i.stream : Nat)) := HX5.out.cell 2
    rw [hi] at x2'
    have x17' : W5.cell? ⟨w.heap.size, 17, none⟩ = some (.slice A n c) := HX5.out.cell 17
    have hr5 := HF5.out.rd HR.out (Nat.le_refl _) (fun hp ad e => (HOwn.out hp ad e).1)
    have HR5 := Lib.hid hr5
    clear hwh1 hwh2 hW5 hc5 HK9 HC4 x3 x2 x17 d9 f9 hr5 hs5e
    rcases Nat.eq_zero_or_pos n with hn0 | hn0
    · have k5 : ((0 : Int) < (n : Int)) = False := by simp; omega
      have k5' : (0 < n) = False := by simp; omega
      have HN0 := Lib.hid hn0
      clear hn0
      have HEn := ends_any W5 ow4 b _ L4 s5 false HC5.out (mem_updS HH.out.1 HE5.out.2.1.symm) (by rw [HE5.out.2.2]; exact HH.out.2.2.1) (by show ((updS M.strs _).map (·.id)).Nodup; rw [updS_ids]; exact HH.out.2.2.2.2.1)
      rw [show (L4.s s5.id).sb = sb from by rw [HE5.out.2.1]; exact HS4.out] at HEn
      have HEn := Lib.hid HEn
      go_wp2_with fail
      clear x3' x2' x17'
      refine HEn.out.mono ?_
      intro e w8 hp
      obtain rfl := hp.ret
      have HP := Lib.hid hp
      clear hp
      go_wp2
      go_end0
      obtain ⟨ow8, L8, _, hc8, hf8⟩ := HP.out
      refine ⟨_, rfl, ow8, L8, rfl, ?_, (HF0.out.trans HF5.out).trans hf8⟩
      have e8 : dataM M s sz l i.endd A c = { M with inw := M.inw - (sz : Int) + (g : Int), strs := updS (updS M.strs s5) (endS s5 false), out := dataO M s g false } := by
        rw [updS_two M.strs (s1 := s5) (s2 := endS s5 false) (by cases HE5.out.1; rfl)]
        unfold dataM dataE dataS
        rw [HFin.out, HLen.out, HNm.out.2.2.1, if_neg (by rintro (h | h); exact absurd h (by have := HN0.out; omega); cases h), HE5.out.1, HE4.out.1]
        rfl
      rw [e8]
      exact hc8
    · have k5 : ((0 : Int) < (n : Int)) = True := by simp; omega
      have k5p : (0 < n) = True := by simp; omega
      have HN0 := Lib.hid hn0
      clear hn0
      have htg := evd_tag (st := s.id) (fin := false) (HF0.out.trans HF5.out) HC5.out HR5.out HF5.out.size HH.out.2.2.2.2.2.1 (fun hp ad e => ⟨HF5.out.no _ (by obtain ⟨ad2, e2, hlt, _⟩ := HR.out.2 hp; rw [e] at e2; injection e2 with e2; rw [e2]; exact hlt) (HOwn.out hp ad e).1, (HOwn.out hp ad e).2⟩)
      obtain ⟨OW6, hc6, hf6, hev6, hno6⟩ := htg
      have HF6 := Lib.hid hf6
      have HXo6 := Lib.hid (show OW6 w.heap.size = .no from (hno6 _ (Nat.le_refl _)).trans HXo4.out)
      have HTl := tell_anyL W5 OW6 b _ L4 { kind := 2, stream := s.id, fin := false, ba := A, bc := c, by_ := l } hc6 hev6 (by have := HNm.out; show M.evs.length ≤ _; omega)
      rw [evC_data, HLen.out] at HTl
      have HTl := Lib.hid HTl
      clear hc6 hf6 hev6 hno6
      go_wp2_with fail
      clear x3' x2' x17'
      refine HTl.out.mono ?_
      rintro e w7 ⟨ow7, L7, rfl, hc7, hf7, hl7⟩
      have HX7 := Lib.hid (hf7.blk HX5.out HXo6.out)
      have x3' : w7.cell? ⟨w.heap.size, 3, none⟩ = some (.bool i.endd) := HX7.out.cell 3
      rw [HFin.out] at x3'
      have HEn := ends_any w7 ow7 b _ L7 s5 false hc7 (mem_updS HH.out.1 HE5.out.2.1.symm) (by rw [HE5.out.2.2]; exact HH.out.2.2.1) (by show ((updS M.strs _).map (·.id)).Nodup; rw [updS_ids]; exact HH.out.2.2.2.2.1)
      rw [show (L7.s s5.id).sb = sb from by rw [hl7, HE5.out.2.1]; exact HS4.out] at HEn
      have HEn := Lib.hid HEn
      have HF7 := Lib.hid (HF6.out.trans hf7)
      clear hc7 hf7 hl7
      go_wp2_with fail
      clear x3'
      refine HEn.out.mono ?_
      intro e w8 hp
      obtain rfl := hp.ret
      have HP := Lib.hid hp
      clear hp
      go_wp2
      go_end0
      obtain ⟨ow8, L8, _, hc8, hf8⟩ := HP.out
      refine ⟨_, rfl, ow8, L8, rfl, ?_, HF7.out.trans hf8⟩
      have e8 : dataM M s sz l i.endd A c = { M with inw := M.inw - (sz : Int) + (g : Int), strs := updS (updS M.strs s5) (endS s5 false), out := dataO M s g false, evs := M.evs ++ [({ kind := 2, stream := s.id, fin := false, ba := A, bc := c, by_ := l } : EvV)] } := by
        rw [updS_two M.strs (s1 := s5) (s2 := endS s5 false) (by cases HE5.out.1; rfl)]
        unfold dataM dataE dataS
        rw [HFin.out, HLen.out, HNm.out.2.2.1, if_pos (.inl HN0.out), HE5.out.1, HE4.out.1]
        rfl
      rw [e8]
      exact hc8
end Go.Proofs.YtdkfbkjmhgbppaaGreatDoor
end

section
namespace Go.Proofs.YtdkfbkjmhgbppaaGreatDoor
open Go.RowKit Go.Own Go.Own.Im Go.Own.Cx Go.Own.Fr
attribute [local go_sem] Oper.semAt_some
set_option maxHeartbeats 8000000 in
set_option maxRecDepth 100000 in
theorem takes_gen (w : World) (ow : Nat → Tg) (b : Nat) (M : Cv) (L : Lay) (Q : Ending → World → Prop) (t f s K : Nat) (fst : Array Value) (cap : Nat → Array Value) (A : Option Addr) (n c : Nat) (l : List UInt8) (j : Inf)
    (h : CN w ow b M L) (hr : Rd w w.heap.size A n l) (hno : 0 < n → ∀ ad, A = some ad → ow ad.block = .no) (hc : n ≤ c) (hn : n ≤ 16384) (ht : t ≤ 255) (hf : f ≤ 255) (hs : s ≤ 2147483647) (hopn : ∀ W : World, Rd W w.heap.size A n l → w.heap.size ≤ W.heap.size → Calls Tryz.prog 98 #[.agg #[.int .i64 (t : Nat), .int .i64 (f : Nat), .int .i64 (s : Nat), .slice A n c]] W (OpPost W t f s l)) (hl : M.list = none) (h9 : t ≠ 9)
    (hgr : M.greeted = true ∨ (t = 4 ∧ f &&& 1 = 0)) (ho : opn t f s l = .ok j) (hfn : ∀ g, wkF g b (t : Int) = some (.func (.func K) fst (cap g))) (hE : Enters Tryz.prog K)
    (hret : ∀ e w', Q e w' → e = .returned (.tuple #[]) ∨ ∃ cs, e = .panicked cs)
    (hw : ∀ W g sv dv, CN W ow b { M with greeted := true } L → Fr w ow W ow → Blk W g 24 #[.pointer (some ⟨b, 0, none⟩)] → w.heap.size ≤ g → SetO W w.heap.size sv j.sets → Ow W w.heap.size 5 dv j.data.length j.data →
      Calls Tryz.prog K (fst ++ (#[.agg (infC j sv dv), .int .i64 (n : Nat)] ++ cap g)) W Q) :
    Calls Tryz.prog 69 #[.pointer (some ⟨b, 0, none⟩), .agg #[.int .i64 (t : Nat), .int .i64 (f : Nat), .int .i64 (s : Nat), .slice A n c]] w Q := by
  have hta := assert_nil
  have hE : ∀ args w, (callFunc K args).run Tryz.prog w = .ok (.enter K args) w := hE
  have HX := Lib.hid (Blk.new w 86 #[.int .i64 (t : Nat), .int .i64 (f : Nat), .int .i64 (s : Nat), .slice A n c])
  have HB0 := Lib.hid ((Below.refl w.heap.size w).alloc (Nat.le_refl _) (.cells #[.int .i64 (t : Nat), .int .i64 (f : Nat), .int .i64 (s : Nat), .slice A n c] 86))
  have HC := Lib.hid h
  have HR := Lib.hid hr
  have HNo := Lib.hid hno
  have HW := Lib.hid hw
  have HRet := Lib.hid hret
  have HFn := Lib.hid hfn
  have HO := Lib.hid ho
  have HH := Lib.hid (show _ ∧ _ ∧ _ ∧ _ ∧ _ from ⟨hc, hn, ht, hf, hs⟩)
  have HOn := Lib.hid hopn
  have e1 : bits .and .i64 (f : Int) 1 = ((f &&& 1 : Nat) : Int) := and_nat f 1 (by omega) (by omega)
  obtain ⟨q, hq⟩ : ∃ q, f &&& 1 = q := ⟨_, rfl⟩
  rw [hq] at e1 hgr
  have hq0 : M.greeted = true ∨ (((t : Int) != 4) = false ∧ ((q : Int) != 0) = false) := by
    rcases hgr with hg | ⟨h1, h2⟩
    · exact .inl hg
    · subst h1 h2; exact .inr ⟨rfl, rfl⟩
  have h9' : ((t : Int) == 9) = false := by simp; omega
  have HL := Lib.hid (show L.list = .pointer none from by have := h.p.lst; rw [hl] at this; exact this)
  have HGr := Lib.hid hq0
  have HQ := Lib.hid hq
  clear h hr hno hw hret hfn ho hc hn ht hf hs hopn hl h9 hgr hq hq0
  go_enter Tryz.func69, Tryz.ntmps69
  go_upto_region 1 with fail
  generalize w.alloc (.cells #[.int .i64 (t : Nat), .int .i64 (f : Nat), .int .i64 (s : Nat), .slice A n c] 86) = W0 at *
  have HC0 := Lib.hid (HC.out.below HB0.out)
  have x0 : W0.cell? ⟨w.heap.size, 0, none⟩ = some (.int .i64 (t : Nat)) := HX.out.cell 0
  have x1 : W0.cell? ⟨w.heap.size, 1, none⟩ = some (.int .i64 (f : Nat)) := HX.out.cell 1
  have x2 : W0.cell? ⟨w.heap.size, 2, none⟩ = some (.int .i64 (s : Nat)) := HX.out.cell 2
  have c3 : W0.cell? ⟨b, 3, none⟩ = some L.fed := HC0.out.blk.cell 3
  have c4 : W0.cell? ⟨b, 4, none⟩ = some (.bool M.greeted) := HC0.out.blk.cell 4
  have f4 := HC0.out.blk.frozen 4
  cases hgv : M.greeted
  case' false =>
    have hgg := HGr.out
    rw [hgv] at hgg c4
    obtain ⟨hg1, hg2⟩ := hgg.resolve_left (by decide)
    clear hgg hgv
    go_upto_region 5 with fail
    clear hg1 hg2
  case' true =>
    rw [hgv] at c4
    clear hgv
    go_upto_region 5 with fail
  all_goals
    have hgt := HC0.out.greets
    have HC1 := Lib.hid hgt.1
    have HF1 := Lib.hid ((Fr.below HB0.out ow).trans hgt.2)
    have HX1 := Lib.hid (HX.out.far (p := ⟨b, 4, none⟩) (by have := HC.out.blk.lt; show w.heap.size ≠ b; omega) (.bool true))
    clear hgt x0 x1 x2 c3 c4 f4
    generalize W0.setCell ⟨b, 4, none⟩ (.bool true) = W1 at *
    have x0 : W1.cell? ⟨w.heap.size, 0, none⟩ = some (.int .i64 (t : Nat)) := HX1.out.cell 0
    have x1 : W1.cell? ⟨w.heap.size, 1, none⟩ = some (.int .i64 (f : Nat)) := HX1.out.cell 1
    have x2 : W1.cell? ⟨w.heap.size, 2, none⟩ = some (.int .i64 (s : Nat)) := HX1.out.cell 2
    have x3 : W1.cell? ⟨w.heap.size, 3, none⟩ = some (.slice A n c) := HX1.out.cell 3
    have c16 : W1.cell? ⟨b, 16, none⟩ = some L.list := HC1.out.blk.cell 16
    rw [HL.out] at c16
    go_wp2_with fail
    go_quiet (fail)
    have HOpn := Lib.hid (fun n1 => HOn.out (W1.drewN n1) (HF1.out.rd HR.out (Nat.le_refl _) HNo.out) HF1.out.size)
    go_upto_region 8 with fail
    go_wp2_with fail
    refine (HOpn.out _).mono ?_
    intro e w2 hp
    obtain ⟨hb2, hm⟩ := hp
    simp only [HO.out] at hm
    obtain ⟨sv, dv, rfl, hsv, hdv⟩ := hm
    obtain ⟨A5, c5, rfl, _, _⟩ := hsv.form
    obtain ⟨A6, c6, rfl, _, _, _⟩ := hdv.form
    have HB2 := Lib.hid (show Below W1.heap.size W1 w2 from below_drewN (Below.refl W1.heap.size W1) _ |>.trans hb2)
    have HSv := Lib.hid hsv
    have HDv := Lib.hid hdv
    have HC2 := Lib.hid (HC1.out.below HB2.out)
    have HX2 := Lib.hid (HX1.out.below HB2.out HX1.out.lt)
    have HF2 := Lib.hid (HF1.out.trans (Fr.below HB2.out ow))
    clear hb2 hsv hdv x0 x1 x2 x3 c16
    go_upto_region 12 with (first
      | (refine wpList_rowPut _ rfl (.tmp 6) (.tmp 72) 82 rfl w2.heap.size 82 (infC {} (.slice none 0 0) (.slice none 0 0)) _ rfl rfl (Blk.new w2 82 _) infSize rfl (infC_one _ _ _ _ _ _ _) ?_
         intro W3 hb3 hg3
         have HI3 := Lib.hid hb3
         have HB3 := Lib.hid (((Below.refl w2.heap.size w2).alloc (Nat.le_refl _) (.cells (infC {} (.slice none 0 0) (.slice none 0 0)) 82)).grown hg3 (by simp) (fun g e => by injection e with e; omega))
         clear hb3 hg3)
      | fail)
    have HB13 := Lib.hid (HB2.out.trans (HB3.out.mono HB2.out.size))
    have HC3 := Lib.hid (HC2.out.below HB3.out)
    have HX3 := Lib.hid (HX1.out.below HB13.out HX1.out.lt)
    have HF3 := Lib.hid (HF2.out.trans (Fr.below HB3.out ow))
    have HS0 := Lib.hid (show W3.cell? ⟨w.heap.size, 0, none⟩ = some (.int .i64 (t : Nat)) from HX3.out.cell 0)
    have HS0d := Lib.hid (show W3.drew.cell? ⟨w.heap.size, 0, none⟩ = some (.int .i64 (t : Nat)) from HX3.out.cell 0)
    have HWk := Lib.hid (fun W => works_any b W)
    go_region_held3 (fun W' => W'.cell? ⟨w.heap.size, 0, none⟩ = some (.int .i64 (t : Nat))) (first | with_reducible exact HS0.out | with_reducible exact HS0d.out | with_reducible exact HS4.out | with_reducible exact HS4d.out) (first
      | (go_at_call 107
         with_reducible refine Calls.mono (HWk.out _) ?_
         rintro e w4 ⟨rfl, hbk4, hm4, hb4⟩
         have hb4 : Below W3.heap.size W3 w4 := below_of_drew hb4
         have HB4 := Lib.hid hb4
         have HK4 := Lib.hid (show Blk w4 W3.heap.size 24 #[.pointer (some ⟨b, 0, none⟩)] from hbk4)
         have hlk4 : (Instr.lookup 180 (.map (some (W3.heap.size + 1))) (.int .i64 (t : Int)) false).run Tryz.prog w4 = .ok (.func (.func K) fst (cap W3.heap.size)) w4 := look_wk (t := t) hm4 HH.out.2.2.1 (HFn.out _)
         have hlk4d : (Instr.lookup 180 (.map (some (W3.heap.size + 1))) (.int .i64 (t : Int)) false).run Tryz.prog w4.drew = .ok (.func (.func K) fst (cap W3.heap.size)) w4.drew := look_wk (t := t) (w := w4.drew) hm4 HH.out.2.2.1 (HFn.out _)
         have HS4 := Lib.hid (show w4.cell? ⟨w.heap.size, 0, none⟩ = some (.int .i64 (t : Nat)) from (HX3.out.below hb4 HX3.out.lt).cell 0)
         have HS4d := Lib.hid (show w4.drew.cell? ⟨w.heap.size, 0, none⟩ = some (.int .i64 (t : Nat)) from HS4.out)
         clear hbk4 hm4 hb4)
      | fail)
  all_goals
    have HX4 := Lib.hid (HX3.out.below HB4.out HX3.out.lt)
    have HI4 := Lib.hid (HI3.out.below HB4.out HI3.out.lt)
    have y3 : w4.cell? ⟨w.heap.size, 3, none⟩ = some (.slice A n c) := HX4.out.cell 3
    clear hlk4 hlk4d
    have hnf := neq_func (.func K) fst (cap W3.heap.size)
    go_wp2_with (first
      | (refine wpList_rowGet _ rfl (.tmp 6) 82 rfl w2.heap.size 82 _ rfl HI4.out _ Tryz.underlying82 rfl infSize ?_)
      | fail)
    have HC4 := Lib.hid (HC3.out.below HB4.out)
    have HF4 := Lib.hid (HF3.out.trans (Fr.below HB4.out ow))
    have hz1 := HF1.out.size
    have hz2 := HB2.out.size
    have hz3 := HB3.out.size
    have HB14 := Lib.hid (HB3.out.trans (HB4.out.mono hz3))
    refine (HW.out w4 W3.heap.size _ _ HC4.out HF4.out HK4.out (by omega) ?_ ?_).mono ?_
    · exact ew_base (HSv.out.below HB14.out) hz1
    · exact (HDv.out.below HB14.out (fun g hg => (HDv.out.lt hg).1)).base hz1
    intro e w5 hq
    rcases HRet.out e w5 hq with rfl | ⟨cs, rfl⟩
    · have HQ5 := Lib.hid hq
      clear hq
      go_wp2
      go_end0
      exact HQ5.out
    · have HQ5 := Lib.hid hq
      clear hq
      go_wp2
      exact ⟨rfl, HQ5.out⟩
end Go.Proofs.YtdkfbkjmhgbppaaGreatDoor
end

section
namespace Go.Proofs.YtdkfbkjmhgbppaaGreatDoor
open Go.RowKit Go.Own Go.Own.Im Go.Own.Cx Go.Own.Fr Go.Own.Hd
def dfl (fin : Bool) : Nat := if fin then 9 else 8
/-- A padded payload. -/
def padB (pad : Nat) (l : List UInt8) : List UInt8 := UInt8.ofNat pad :: (l ++ List.replicate pad 0)
theorem padB_len (pad : Nat) (l : List UInt8) : (padB pad l).length = 1 + l.length + pad := by simp [padB]; omega
theorem pad_nat (pad : Nat) (h : pad ≤ 63) : (UInt8.ofNat pad).toNat = pad := by
  rw [UInt8.toNat_ofNat_of_lt' (by show pad < 256; omega)]
theorem opn_pad (s pad : Nat) (l : List UInt8) (fin : Bool) (h0 : s ≠ 0) (hp : pad ≤ 63) : opn 0 (dfl fin) s (padB pad l) = .ok { ({ info0 0 (dfl fin) s with pad := pad } : Inf) with data := l } := by
  have h8 : hasF 0 (dfl fin) 8 = true := by cases fin <;> decide
  unfold opn padB
  rw [if_neg (by intro h; rcases h with h | h; exact h0 h.1; exact absurd h.2 (by decide)), if_pos h8]
  show (if (UInt8.ofNat pad :: (l ++ List.replicate pad 0)).length ≤ (UInt8.ofNat pad).toNat then _ else _) = _
  rw [pad_nat pad hp, if_neg (by simp; omega)]
  have e : (l ++ List.replicate pad (0 : UInt8)).take ((l ++ List.replicate pad (0 : UInt8)).length - pad) = l := by
    rw [List.length_append, List.length_replicate, Nat.add_sub_cancel]
    exact List.take_left
  rw [e]
  rfl
theorem takes_data (M : Cv) (s : Sv) (pad : Nat) (l : List UInt8) (fin : Bool) (hg : M.greeted = true) (hl : M.list = none) (hk : knownB M s.id = true) (hst : strAt M (s.id : Int) = some s) (ho1 : s.other = 1) (ho3 : s.own ≠ 3) (hid : 0 < s.id ∧ s.id ≤ 2147483647) (hu : (M.strs.map (·.id)).Nodup)
    (hpad : pad ≤ 63) (hll : l.length ≤ 8000) (hw1 : 8064 ≤ M.inw ∧ M.inw ≤ 65535) (hw2 : 8064 ≤ s.inw ∧ s.inw ≤ 65535) (hh : s.held ≤ 1000000) (ho : M.out.length ≤ 900000000) (hev : M.evs.length ≤ 900000) :
    TakesT M 0 (dfl fin) s.id (padB pad l) (fun M' => ∃ A c, M' = dataM M s (1 + l.length + pad) l fin A c) := by
  intro w ow b L A c hE h hr hno hc
  have hM : ({ M with greeted := true } : Cv) = M := by
    cases M
    simp only at hg
    subst hg
    rfl
  have hpl := padB_len pad l
  have hdf : dfl fin ≤ 255 := by cases fin <;> decide
  refine takes_gen w ow b M L _ 0 (dfl fin) s.id 133 #[.pointer (some ⟨b, 0, none⟩)] (fun _ => #[]) A _ c _ { ({ info0 0 (dfl fin) s.id with pad := pad } : Inf) with data := l } h hr hno hc (by omega) (by decide) hdf hid.2
    (fun W hrW hB => open_padded 0 (dfl fin) s.id rfl A _ c w.heap.size _ _ W hrW hB hc (by omega) hdf (by cases fin <;> decide) hid.2 (by omega) (by rw [pad_nat pad hpad]; omega)) hl (by decide) (.inl hg) (opn_pad s.id pad l fin (by omega) hpad) (fun g => rfl) enter_cdata (fun e w' hq => .inl hq.ret) ?_
  intro W g sv dv hcW hfW hbk hg' hs hd
  rw [hM] at hcW
  obtain ⟨A6, c6, rfl, hle6, _, hrd6⟩ := hd.form
  have hfin : ({ ({ info0 0 (dfl fin) s.id with pad := pad } : Inf) with data := l } : Inf).endd = fin := by cases fin <;> rfl
  have h9 := data_ok w ow W ow b M L s { ({ info0 0 (dfl fin) s.id with pad := pad } : Inf) with data := l } sv A6 l.length c6 (padB pad l).length (pad + 1) l hfW hcW hk hst rfl ho1 ho3 hid hu hrd6 (fun hp ad e => by
    have hge := (hd.lt (g := ad.block) (by rw [e]; rfl)).2
    exact ⟨h.new _ hge, hge⟩) hle6 (by omega) (by omega) (by omega) (by omega) (by omega) hh ho hev
  rw [hfin] at h9
  refine h9.mono ?_
  rintro e w' ⟨M', rfl, hp⟩
  exact ⟨_, ⟨A6, c6, by rw [hpl]⟩, hp⟩
theorem runs_data (M : Cv) (s : Sv) (pad : Nat) (l : List UInt8) (fin : Bool) (hp : M.preface = 24) (hd : M.dead = false) (hf : M.fed = []) (hg : M.greeted = true) (hl : M.list = none) (hk : knownB M s.id = true) (hst : strAt M (s.id : Int) = some s) (ho1 : s.other = 1) (ho3 : s.own ≠ 3) (hid : 0 < s.id ∧ s.id ≤ 2147483647) (hu : (M.strs.map (·.id)).Nodup)
    (hpad : pad ≤ 63) (hll : l.length ≤ 8000) (hw1 : 8064 ≤ M.inw ∧ M.inw ≤ 65535) (hw2 : 8064 ≤ s.inw ∧ s.inw ≤ 65535) (hh : s.held ≤ 1000000) (ho : M.out.length ≤ 900000000) :
    Runs 1 { M with evs := [], fed := M.fed ++ frameB 0 (dfl fin) s.id (padB pad l) } (fun M' => ∃ A c, M' = dataM { M with evs := [] } s (1 + l.length + pad) l fin A c) := by
  have hM : ({ ({ M with evs := [], fed := M.fed ++ frameB 0 (dfl fin) s.id (padB pad l) } : Cv) with fed := [] } : Cv) = { M with evs := [] } := by
    cases M
    simp only at hf
    subst hf
    rfl
  have hpl := padB_len pad l
  refine .more hd (step_takes _ (fun M' => ∃ A c, M' = dataM { M with evs := [] } s (1 + l.length + pad) l fin A c) 0 (dfl fin) s.id (padB pad l) [] hp (by rw [hf, List.nil_append, List.append_nil]) (by decide) (by cases fin <;> decide) hid.2 (by omega) (by rw [hM]; exact takes_data { M with evs := [] } s pad l fin hg hl hk hst ho1 ho3 hid hu hpad hll hw1 hw2 hh ho (Nat.zero_le _))) fun M1 h1 => ?_
  obtain ⟨A, c, rfl⟩ := h1
  exact .stop hd ((step_few (dataM { M with evs := [] } s (1 + l.length + pad) l fin A c) hp (by show M.fed.length < 9; rw [hf]; decide)).mono fun M' h' => ⟨A, c, h'⟩)
/-- An end that was told that bytes were eaten. -/
def ateM (M : Cv) (s : Sv) (n : Nat) : Cv :=
  { M with inw := M.inw + n, strs := updS M.strs { s with held := s.held - n, inw := if s.other = 3 then s.inw else s.inw + n }, out := (M.out ++ frameB 8 0 0 (be n 4)) ++ (if s.other = 3 then [] else frameB 8 0 s.id (be n 4)) }
theorem wsub3 (a n : Nat) (h : n ≤ a) (ha : a ≤ 1000000) : wrap64 ((a : Int) - (n : Int)) = ((a - n : Nat) : Int) ∧ IntKind.i64.wrap ((a : Int) - (n : Int)) = ((a - n : Nat) : Int) ∧ (a : Int) - (n : Int) = ((a - n : Nat) : Int) := ⟨by unfold wrap64; omega, by rw [IntKind.wrap_i64]; omega, by omega⟩
set_option maxHeartbeats 8000000 in
set_option maxRecDepth 100000 in
theorem ate_ok (w : World) (ow : Nat → Tg) (b : Nat) (M : Cv) (L : Lay) (s : Sv) (n : Nat) (h : CN w ow b M L) (hd : M.dead = false) (hst : strAt M (s.id : Int) = some s) (hid : 0 < s.id ∧ s.id ≤ 2147483647) (h0 : 0 < n) (hn : n ≤ s.held) (hh : s.held ≤ 1000000) (hw1 : 0 ≤ M.inw ∧ M.inw + n ≤ 1000000) (hw2 : 0 ≤ s.inw ∧ s.inw + n ≤ 1000000) (ho : M.out.length ≤ 900000000) :
    Calls Tryz.prog 19 #[.pointer (some ⟨b, 0, none⟩), .int .i64 (s.id : Nat), .int .i64 (n : Nat)] w (CPost w ow b (ateM M s n) .nilIface) := by
  obtain ⟨_, hmem, _⟩ := at_some (L := L) hst
  have hwf : (Lit.int .i64 (s.id : Int)).wf = true := by simp [Lit.wf, IntKind.min, IntKind.max, IntKind.bits, IntKind.signed]; omega
  have HT := Lib.hid (there_ok h hd s s.id hst hwf)
  have HC := Lib.hid h
  have HH := Lib.hid (show _ ∧ _ ∧ _ from ⟨hmem, hst, hid⟩)
  have HNm := Lib.hid (show _ ∧ _ ∧ _ ∧ _ ∧ _ ∧ _ from ⟨h0, hn, hh, hw1, hw2, ho⟩)
  obtain ⟨wk1, wk2, wk3⟩ := wsub3 s.held n hn hh
  obtain ⟨hd2, hhd⟩ : ∃ k, s.held - n = k := ⟨_, rfl⟩
  rw [hhd] at wk1 wk2 wk3
  have HHd := Lib.hid hhd
  have HW1 := Lib.hid wk1
  have HW2 := Lib.hid wk2
  have HW3 := Lib.hid wk3
  have k1 : ((n : Int) < 1) = False := by simp; omega
  have k2 : ((s.held : Int) < (n : Int)) = False := by simp; omega
  obtain ⟨sb, hsb⟩ : ∃ g, (L.s s.id).sb = g := ⟨_, rfl⟩
  have HB := Lib.hid hsb
  rw [hsb] at HT
  clear h hd hst hid h0 hn hh hw1 hw2 ho hwf hmem wk1 wk2 wk3 hhd hsb
  go_enter Tryz.func19, Tryz.ntmps19
  go_wp2_with fail
  refine HT.out.mono ?_
  rintro e w1 ⟨rfl, m, rfl⟩
  have HC1 := Lib.hid (HC.out.drewN m)
  have HF1 := Lib.hid (Fr.drewN w ow m)
  generalize w.drewN m = W1 at *
  have hb1 := (HC1.out.p.strs s HH.out.1).blk
  rw [HB.out] at hb1
  have d9 : W1.cell? ⟨sb, 9, none⟩ = some (.int .i64 (s.held : Nat)) := hb1.cell 9
  have f9 := hb1.frozen 9
  have hk9 := HC1.out.strcell (s := s) (s' := { s with held := hd2 }) HH.out.1 rfl 9 (.int .i64 (hd2 : Nat)) rfl rfl rfl rfl
  rw [HB.out] at hk9
  have HK9 := Lib.hid hk9
  have wk1 := HW1.out
  have wk2 := HW2.out
  clear hb1 hk9
  go_upto_region 7 with fail
  clear wk1 wk2 d9 f9 k1 k2
  try rw [HW3.out]
  generalize W1.setCell ⟨sb, 9, none⟩ (.int .i64 (hd2 : Nat)) = W2 at *
  have HC2 := Lib.hid HK9.out.1
  have HF2 := Lib.hid (HF1.out.trans HK9.out.2)
  have HG1 := Lib.hid (gives_conn W2 ow b _ L n HC2.out (by have := HNm.out; omega) (by have := HNm.out; omega) (show -2147483647 ≤ M.inw ∧ M.inw ≤ 2147483647 by have := HNm.out; omega) (show M.inw + (n : Int) ≤ 2147483647 by have := HNm.out; omega) (by have := HNm.out; show M.out.length ≤ _; omega))
  clear HK9
  go_wp2_with fail
  refine HG1.out.mono ?_
  rintro e w3 ⟨ow3, L3, rfl, hc3, hf3, hl3⟩
  have HC3 := Lib.hid hc3
  have HF3 := Lib.hid (HF2.out.trans hf3)
  have hst3 := strAt_upd (s' := { s with held := hd2 }) HH.out.2.1 rfl { M with inw := M.inw + (n : Int), strs := updS M.strs { s with held := hd2 }, out := M.out ++ frameB 8 0 0 (be n 4) } rfl
  have HSt3 := Lib.hid hst3
  have hb3 := (hc3.p.strs { s with held := hd2 } (mem_updS HH.out.1 rfl)).blk
  rw [show (L3.s ({ s with held := hd2 } : Sv).id).sb = sb from by rw [hl3]; exact HB.out] at hb3
  have d2 : w3.cell? ⟨sb, 2, none⟩ = some (.int .i64 (s.other : Nat)) := hb3.cell 2
  clear hc3 hf3 hl3 hst3 hb3
  by_cases h3 : s.other = 3
  · rw [h3] at d2
    have HH3 := Lib.hid h3
    clear h3
    go_wp2
    go_ret
    refine ⟨ow3, L3, rfl, ?_, HF3.out⟩
    have e : ateM M s n = { M with inw := M.inw + (n : Int), strs := updS M.strs { s with held := hd2 }, out := M.out ++ frameB 8 0 0 (be n 4) } := by
      unfold ateM
      rw [HH3.out, if_pos rfl, if_pos rfl, HHd.out, List.append_nil]
    rw [e]
    exact HC3.out
  · have j1 : ((s.other : Int) != 3) = true := by simp; omega
    have j2 : ((s.other : Int) = 3) = False := by simp; omega
    have HH3 := Lib.hid h3
    have HG2 := Lib.hid (gives_str w3 ow3 b _ L3 { s with held := hd2 } n HC3.out HSt3.out HH.out.2.2 (by have := HNm.out; omega) (by have := HNm.out; omega) (show -2147483647 ≤ s.inw ∧ s.inw ≤ 2147483647 by have := HNm.out; omega) (show s.inw + (n : Int) ≤ 2147483647 by have := HNm.out; omega) (by have := HNm.out; show (M.out ++ frameB 8 0 0 (be n 4)).length ≤ _; rw [List.length_append, frameB_len, be_len]; omega))
    clear h3
    go_wp2_with fail
    refine HG2.out.mono ?_
    rintro e w4 ⟨ow4, L4, rfl, hc4, hf4, hl4⟩
    have HC4 := Lib.hid hc4
    have HF4 := Lib.hid (HF3.out.trans hf4)
    clear hc4 hf4 hl4
    go_wp2
    go_ret
    refine ⟨ow4, L4, rfl, ?_, HF4.out⟩
    have e : ateM M s n = { M with inw := M.inw + (n : Int), strs := updS (updS M.strs { s with held := hd2 }) { s with held := hd2, inw := s.inw + (n : Int) }, out := (M.out ++ frameB 8 0 0 (be n 4)) ++ frameB 8 0 s.id (be n 4) } := by
      rw [updS_two M.strs (s1 := { s with held := hd2 }) (s2 := { s with held := hd2, inw := s.inw + (n : Int) }) rfl]
      unfold ateM
      rw [if_neg HH3.out, if_neg HH3.out, HHd.out]
    rw [e]
    exact HC4.out
end Go.Proofs.YtdkfbkjmhgbppaaGreatDoor
end

section
namespace Go.Proofs.YtdkfbkjmhgbppaaGreatDoor
open Go.RowKit Go.Own Go.Own.Im Go.Own.Cx Go.Own.Fr Go.Own.Hd
theorem flag4' : ((if false then 1 else 0) ||| (if true then 4 else 0) : Nat) = 4 := by decide
/-- A server, behind one request that goes on. -/
def d5 (A : Option Addr) (c : Nat) : Cv := opnM (setM { newM 2 65535 10 with preface := 24 }) 1 false hs3 A c
theorem runs_d5 : Runs 26 { newM 2 65535 10 with evs := [], fed := (newM 2 65535 10).fed ++ ((prefB ++ frameB 4 0 0 []) ++ frameB 1 4 1 b3) } (fun M' => ∃ A c, M' = d5 A c) := by
  have h := runs_pref (S := fun M' => ∃ A c, M' = d5 A c) (n := 2) (newM 2 65535 10) (frameB 4 0 0 [] ++ frameB 1 4 1 b3) rfl ?_ 24 (Nat.le_refl _)
  · have e : ({ newM 2 65535 10 with evs := [], fed := (newM 2 65535 10).fed ++ ((prefB ++ frameB 4 0 0 []) ++ frameB 1 4 1 b3) } : Cv) = { newM 2 65535 10 with preface := 24 - 24, fed := prefB.drop (24 - 24) ++ (frameB 4 0 0 [] ++ frameB 1 4 1 b3) } := by
      have e1 : (newM 2 65535 10).fed ++ ((prefB ++ frameB 4 0 0 []) ++ frameB 1 4 1 b3) = prefB.drop (24 - 24) ++ (frameB 4 0 0 [] ++ frameB 1 4 1 b3) := by
        show [] ++ _ = _
        rw [List.nil_append, List.append_assoc]
        rfl
      rw [e1]
      rfl
    rw [e]
    exact h
  · refine .more rfl (step_takes _ _ 4 0 0 [] (frameB 1 4 1 b3) rfl rfl (by decide) (by decide) (by decide) (by decide) (takes_set _ rfl (by decide) (by decide))) fun M1 h1 => ?_
    subst h1
    refine .more rfl (step_takes _ _ 1 4 1 b3 [] rfl (by show frameB 1 4 1 b3 = _; rw [List.append_nil]) (by decide) (by decide) (by decide) (by decide) (flag4' ▸ takes_open _ 1 false b3 hs3 ix3 (by decide) rfl rfl rfl rfl rfl rfl (by decide) (fun s hs => by cases hs) (by decide) rfl ⟨by decide, by decide⟩ ⟨by decide, by decide⟩ (by decide) (by show ([] : List Nat).Nodup; exact List.nodup_nil) (by decide) (by decide) szs3 opn3)) fun M2 h2 => ?_
    obtain ⟨A, c, rfl⟩ := h2
    exact .stop rfl ((step_few _ rfl (by show ([] : List UInt8).length < 9; decide)).mono fun M' h' => ⟨A, c, h'⟩)
/-- Behind its output. -/
def d0 : Cv := { d5 none 0 with evs := [], out := [] }
def s0 : Sv := { id := 1, other := 1, inw := 65535, outw := 65535 }
theorem d0_strs : d0.strs = [s0] := rfl
/-- Behind data. -/
def d1 (l : List UInt8) (pad : Nat) (fin : Bool) : Cv := { dataM d0 s0 (1 + l.length + pad) l fin none 0 with evs := [] }
def s1' (l : List UInt8) (pad : Nat) (fin : Bool) : Sv := dataS s0 (1 + l.length + pad) l.length fin
/-- Behind its output. -/
def d2 (l : List UInt8) (pad : Nat) (fin : Bool) : Cv := { d1 l pad fin with out := [] }
theorem d1_strs (l : List UInt8) (pad : Nat) (fin : Bool) : (d1 l pad fin).strs = [s1' l pad fin] := by cases fin <;> rfl
theorem d2_strs (l : List UInt8) (pad : Nat) (fin : Bool) : (d2 l pad fin).strs = [s1' l pad fin] := d1_strs l pad fin
theorem s1_id (l : List UInt8) (pad : Nat) (fin : Bool) : (s1' l pad fin).id = 1 := by cases fin <;> rfl
theorem s1_held (l : List UInt8) (pad : Nat) (fin : Bool) : (s1' l pad fin).held = l.length := by
  have h : (s1' l pad fin).held = 0 + l.length := by cases fin <;> rfl
  rw [h, Nat.zero_add]
theorem s1_other (l : List UInt8) (pad : Nat) (fin : Bool) : (s1' l pad fin).other = if fin then 3 else 1 := by cases fin <;> rfl
theorem s1_still (l : List UInt8) (pad : Nat) (fin : Bool) : Still (s1' l pad fin) := by cases fin <;> exact ⟨rfl, (show (0 : Nat) ≠ 2 by decide)⟩
theorem s1_inw (l : List UInt8) (pad : Nat) (fin : Bool) (h : l.length ≤ 8000) (hp : pad ≤ 63) : 0 ≤ (s1' l pad fin).inw ∧ (s1' l pad fin).inw ≤ 65535 := by
  cases fin
  · show 0 ≤ (65535 : Int) - ((1 + l.length + pad : Nat) : Int) + ((1 + l.length + pad - l.length : Nat) : Int) ∧ (65535 : Int) - ((1 + l.length + pad : Nat) : Int) + ((1 + l.length + pad - l.length : Nat) : Int) ≤ 65535
    omega
  · show 0 ≤ (65535 : Int) - ((1 + l.length + pad : Nat) : Int) ∧ (65535 : Int) - ((1 + l.length + pad : Nat) : Int) ≤ 65535
    omega
theorem d2_inw (l : List UInt8) (pad : Nat) (fin : Bool) (h : l.length ≤ 8000) (hp : pad ≤ 63) : 0 ≤ (d2 l pad fin).inw ∧ (d2 l pad fin).inw ≤ 65535 := by
  show 0 ≤ (65535 : Int) - ((1 + l.length + pad : Nat) : Int) + ((1 + l.length + pad - l.length : Nat) : Int) ∧ (65535 : Int) - ((1 + l.length + pad : Nat) : Int) + ((1 + l.length + pad - l.length : Nat) : Int) ≤ 65535
  omega
theorem at_one {M : Cv} {s : Sv} (h : M.strs = [s]) (hid : s.id = 1) : strAt M 1 = some s := by
  unfold strAt
  rw [h]
  simp [hid]
theorem srt_one {M : Cv} {s : Sv} (h : M.strs = [s]) : (M.strs.map (·.id)).Pairwise (· < ·) := by
  rw [h]
  exact List.pairwise_singleton _ _
theorem d1_out (l : List UInt8) (pad : Nat) (fin : Bool) : (d1 l pad fin).out = frameB 8 0 0 (be (pad + 1) 4) ++ if fin then [] else frameB 8 0 1 (be (pad + 1) 4) := by
  have e : 1 + l.length + pad - l.length = pad + 1 := by omega
  cases fin
  · show ([] ++ frameB 8 0 0 (be (1 + l.length + pad - l.length) 4)) ++ frameB 8 0 1 (be (1 + l.length + pad - l.length) 4) = _
    rw [e]
    rfl
  · show ([] ++ frameB 8 0 0 (be (1 + l.length + pad - l.length) 4)) ++ [] = _
    rw [e]
    rfl
/-- The event of it. -/
def dEv (l : List UInt8) (fin : Bool) (A : Option Addr) (c : Nat) : EvV := { kind := 2, stream := 1, fin := fin, ba := A, bc := c, by_ := l }
theorem d_evs (l : List UInt8) (pad : Nat) (fin : Bool) (A : Option Addr) (c : Nat) : (dataM { d0 with evs := [] } s0 (1 + l.length + pad) l fin A c).evs = if 0 < l.length ∨ fin = true then [dEv l fin A c] else [] := rfl
theorem runs_d (l : List UInt8) (pad : Nat) (fin : Bool) (hpad : pad ≤ 63) (hll : l.length ≤ 8000) : Runs 1 { d0 with evs := [], fed := d0.fed ++ frameB 0 (dfl fin) 1 (padB pad l) } (fun M' => ∃ A c, M' = dataM { d0 with evs := [] } s0 (1 + l.length + pad) l fin A c) :=
  runs_data d0 s0 pad l fin rfl rfl rfl rfl rfl rfl rfl rfl (by decide) ⟨by decide, by decide⟩ (by decide) hpad hll ⟨by decide, by decide⟩ ⟨by decide, by decide⟩ (by decide) (Nat.zero_le _)
/-- Bytes were eaten. -/
def d3 (l : List UInt8) (pad : Nat) (fin : Bool) (n : Nat) : Cv := ateM (d2 l pad fin) (s1' l pad fin) n
def s2' (l : List UInt8) (pad : Nat) (fin : Bool) (n : Nat) : Sv := { s1' l pad fin with held := (s1' l pad fin).held - n, inw := if (s1' l pad fin).other = 3 then (s1' l pad fin).inw else (s1' l pad fin).inw + n }
theorem d3_strs (l : List UInt8) (pad : Nat) (fin : Bool) (n : Nat) : (d3 l pad fin n).strs = [s2' l pad fin n] := by
  show updS (d2 l pad fin).strs (s2' l pad fin n) = _
  rw [d2_strs]
  show [if (s1' l pad fin).id = (s1' l pad fin).id then s2' l pad fin n else s1' l pad fin] = _
  rw [if_pos rfl]
theorem s2_still (l : List UInt8) (pad : Nat) (fin : Bool) (n : Nat) : Still (s2' l pad fin n) := s1_still l pad fin
theorem s2_held (l : List UInt8) (pad : Nat) (fin : Bool) (n : Nat) : (s2' l pad fin n).held = l.length - n := by
  show (s1' l pad fin).held - n = _
  rw [s1_held]
theorem d3_out (l : List UInt8) (pad : Nat) (fin : Bool) (n : Nat) : (d3 l pad fin n).out = frameB 8 0 0 (be n 4) ++ if fin then [] else frameB 8 0 1 (be n 4) := by
  show ([] ++ frameB 8 0 0 (be n 4)) ++ (if (s1' l pad fin).other = 3 then [] else frameB 8 0 (s1' l pad fin).id (be n 4)) = _
  rw [s1_other, s1_id, List.nil_append]
  cases fin <;> rfl
end Go.Proofs.YtdkfbkjmhgbppaaGreatDoor
end
