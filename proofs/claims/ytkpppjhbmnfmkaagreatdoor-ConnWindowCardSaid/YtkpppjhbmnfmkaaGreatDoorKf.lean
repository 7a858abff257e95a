/-
  Contracts: flow's windows: may, Take, Room, Shift, Give, where they are let.
  A window that turns: the end's own, a stream's; contracts: (*Conn).gives of some bytes.
  Contracts: (*flow.Pair).Room, (*flow.Pair).Take of two windows that let it.
  A window that bytes are sent into: the end's, a stream's; bytes that wait no more.
  Contract: (*Conn).sends of bytes that wait on a stream that was told its end, where the windows leave some room.
  Contracts: (*Conn).sends where there is no room; where nothing waits but the end.
  Contract: (*Conn).Output of an end with one stream, piece behind piece.
-/
import Derived.Test.YtkpppjhbmnfmkaaGreatDoorJh
import Derived.BigQuiet
import Derived.Test.YtkpppjhbmnfmkaaGreatDoorJk
import Derived.Test.YtkpppjhbmnfmkaaGreatDoorJi
import Derived.Test.YtkpppjhbmnfmkaaGreatDoorKc
import Derived.Test.YtkpppjhbmnfmkaaGreatDoorJj
import Derived.Test.YtkpppjhbmnfmkaaGreatDoorJy
import Derived.Test.YtkpppjhbmnfmkaaGreatDoorHy
import Derived.Deep.RegionHeld3
set_option linter.unusedSimpArgs false
set_option linter.unusedVariables false
section
namespace Go.Proofs.YtkpppjhbmnfmkaaGreatDoor
open Go.RowKit Go.Own Go.Own.Im Go.Own.Cx Go.Own.Fr
set_option maxHeartbeats 1000000 in
theorem may_yes (w : World) (g : Nat) (a : Int) (n : Nat) (h : Blk w g 177 #[.int .i64 a]) (hn : (n : Int) ≤ a ∨ n = 0) :
    Calls Tryz.prog 120 #[.pointer (some ⟨g, 0, none⟩), .int .i64 (n : Nat)] w fun e w' => e = .returned .nilIface ∧ w' = w := by
  have c0 : w.cell? ⟨g, 0, none⟩ = some (.int .i64 a) := h.cell 0
  have k0 : ((n : Int) < 0) = False := by simp
  clear h
  rcases Nat.eq_zero_or_pos n with h0 | h0
  · subst h0
    clear hn k0
    go_enter Tryz.func120, Tryz.ntmps120
    go_wp2
    go_ret
    exact ⟨rfl, rfl⟩
  · have k1 : ((0 : Int) < (n : Int)) = True := by simp; omega
    have k1' : (0 < n) = True := by simp; omega
    have k2 : (a < (n : Int)) = False := by simp; omega
    clear hn h0
    go_enter Tryz.func120, Tryz.ntmps120
    go_wp2
    go_ret
    exact ⟨rfl, rfl⟩
set_option maxHeartbeats 1000000 in
theorem take_yes (w : World) (g : Nat) (a : Int) (n : Nat) (h : Blk w g 177 #[.int .i64 a]) (hn : (n : Int) ≤ a ∨ n = 0) (ha : -2147483648 ≤ a ∧ a ≤ 2147483647) (hn2 : n ≤ 2147483647) :
    Calls Tryz.prog 121 #[.pointer (some ⟨g, 0, none⟩), .int .i64 (n : Nat)] w fun e w' => e = .returned .nilIface ∧ w' = w.setCell ⟨g, 0, none⟩ (.int .i64 (a - (n : Int))) := by
  have c0 : w.cell? ⟨g, 0, none⟩ = some (.int .i64 a) := h.cell 0
  have f0 := h.frozen 0
  have HM := Lib.hid (may_yes w g a n h hn)
  have hw1 : wrap64 (a - (n : Int)) = a - (n : Int) := by unfold wrap64; omega
  have hw2 : IntKind.i64.wrap (a - (n : Int)) = a - (n : Int) := by rw [IntKind.wrap_i64]; omega
  clear h hn ha hn2
  go_enter Tryz.func121, Tryz.ntmps121
  go_wp2_with fail
  refine HM.out.mono ?_
  rintro e w1 ⟨rfl, hw⟩
  subst w1
  go_wp2
  go_ret
  exact ⟨rfl, rfl⟩
set_option maxHeartbeats 1000000 in
theorem wroom_any (w : World) (g : Nat) (a n : Int) (h : Blk w g 177 #[.int .i64 a]) :
    Calls Tryz.prog 119 #[.pointer (some ⟨g, 0, none⟩), .int .i64 n] w fun e w' => e = .returned (.int .i64 (max 0 (min n a))) ∧ w' = w := by
  have c0 : w.cell? ⟨g, 0, none⟩ = some (.int .i64 a) := h.cell 0
  clear h
  go_enter Tryz.func119, Tryz.ntmps119
  go_wp2
  all_goals
    go_ret
    refine ⟨congrArg (fun x => Ending.returned (Value.int .i64 x)) ?_, rfl⟩
    omega
set_option maxHeartbeats 2000000 in
theorem shift_yes (w : World) (g : Nat) (a n : Int) (h : Blk w g 177 #[.int .i64 a]) (ha : -2147483647 ≤ a ∧ a ≤ 2147483647) (hn : -2147483647 ≤ n ∧ n ≤ 2147483647) (hs : -2147483647 ≤ a + n ∧ a + n ≤ 2147483647) :
    Calls Tryz.prog 197 #[.pointer (some ⟨g, 0, none⟩), .int .i64 n] w fun e w' => e = .returned .nilIface ∧ w' = w.setCell ⟨g, 0, none⟩ (.int .i64 (a + n)) := by
  have c0 : w.cell? ⟨g, 0, none⟩ = some (.int .i64 a) := h.cell 0
  have f0 := h.frozen 0
  have hw1 : wrap64 (a + n) = a + n := by unfold wrap64; omega
  have hw2 : IntKind.i64.wrap (a + n) = a + n := by rw [IntKind.wrap_i64]; omega
  have k0 : (n < -2147483647) = False := by simp; omega
  have k1 : ((2147483647 : Int) < n) = False := by simp; omega
  have k2 : ((2147483647 : Int) < a + n) = False := by simp; omega
  have k3 : (a + n < -2147483647) = False := by simp; omega
  clear h ha hn hs
  go_enter Tryz.func197, Tryz.ntmps197
  go_wp2
  go_ret
  exact ⟨rfl, rfl⟩
set_option maxHeartbeats 1000000 in
theorem give_yes (w : World) (g : Nat) (a : Int) (n : Nat) (h : Blk w g 177 #[.int .i64 a]) (ha : -2147483647 ≤ a ∧ a ≤ 2147483647) (h0 : 1 ≤ n) (hs : a + n ≤ 2147483647) (hn : n ≤ 2147483647) :
    Calls Tryz.prog 159 #[.pointer (some ⟨g, 0, none⟩), .int .i64 (n : Nat)] w fun e w' => e = .returned .nilIface ∧ w' = w.setCell ⟨g, 0, none⟩ (.int .i64 (a + (n : Int))) := by
  have HS := Lib.hid (shift_yes w g a n h ha (by omega) (by omega))
  have k0 : ((n : Int) < 1) = False := by simp; omega
  clear h ha h0 hs hn
  go_enter Tryz.func159, Tryz.ntmps159
  go_wp2_with fail
  refine HS.out.mono ?_
  rintro e w1 ⟨rfl, hw⟩
  rw [hw]
  go_wp2
  go_ret
  exact ⟨rfl, rfl⟩
end Go.Proofs.YtkpppjhbmnfmkaaGreatDoor
end

section
namespace Go.Proofs.YtkpppjhbmnfmkaaGreatDoor
open Go.RowKit Go.Own Go.Own.Im Go.Own.Cx Go.Own.Fr
section
variable {w : World} {ow : Nat → Tg} {b : Nat} {M : Cv} {L : Lay}
theorem CN.inws (h : CN w ow b M L) (v : Int) : CN (w.setCell ⟨L.ib, 0, none⟩ (.int .i64 v)) ow b { M with inw := v } L ∧ Fr w ow (w.setCell ⟨L.ib, 0, none⟩ (.int .i64 v)) ow := by
  have hsz : (w.setCell ⟨L.ib, 0, none⟩ (.int .i64 v)).heap.size = w.heap.size := by simp [World.setCell]
  have k : Kp (fun x => x = .inw) w ow (w.setCell ⟨L.ib, 0, none⟩ (.int .i64 v)) ow :=
    ⟨by omega, fun g _ ht _ => ⟨Below.heap_setCell w _ _ g (fun e => ht (by rw [e]; exact h.p.ti)), rfl⟩⟩
  have hbk := h.blkK k (by decide)
  have hi : Blk (w.setCell ⟨L.ib, 0, none⟩ (.int .i64 v)) L.ib 177 #[.int .i64 v] := h.p.inw.put 0 (.int .i64 v)
  refine ⟨⟨hbk.1, hbk.2, ⟨h.p.fedK k (by decide), h.p.outK k (by decide), h.p.evK k (by decide) (by decide), hi, h.p.ti, (h.p.outwK k (by decide)).1, (h.p.outwK k (by decide)).2, (h.p.mapK k (by decide)).1, (h.p.mapK k (by decide)).2, fun s hs => h.p.strK k s hs (by intro j; simp), h.p.lstK k (by decide) (by decide), h.p.encK k (by decide), h.p.decK k (by decide)⟩, fun g hg => h.new g (by omega)⟩, ?_⟩
  exact Fr.grown (grown_setCell (World.grownBy.refl w (some L.ib)) 0 _) fun g e => by injection e with e; subst e; rw [h.p.ti]; decide
theorem CN.sins (h : CN w ow b M L) {s : Sv} (hs : s ∈ M.strs) (v : Int) : CN (w.setCell ⟨(L.s s.id).ib, 0, none⟩ (.int .i64 v)) ow b { M with strs := updS M.strs { s with inw := v } } L ∧ Fr w ow (w.setCell ⟨(L.s s.id).ib, 0, none⟩ (.int .i64 v)) ow := by
  have hS := h.p.strs s hs
  have hsz : (w.setCell ⟨(L.s s.id).ib, 0, none⟩ (.int .i64 v)).heap.size = w.heap.size := by simp [World.setCell]
  have k : Kp (fun x => x = .st s.id 1) w ow (w.setCell ⟨(L.s s.id).ib, 0, none⟩ (.int .i64 v)) ow :=
    ⟨by omega, fun g _ ht _ => ⟨Below.heap_setCell w _ _ g (fun e => ht (by rw [e]; exact hS.ti)), rfl⟩⟩
  have hbk := h.blkK k (by simp)
  have hi : Blk (w.setCell ⟨(L.s s.id).ib, 0, none⟩ (.int .i64 v)) (L.s s.id).ib 177 #[.int .i64 v] := hS.inw.put 0 (.int .i64 v)
  have hst : ∀ x ∈ updS M.strs { s with inw := v }, SN (w.setCell ⟨(L.s s.id).ib, 0, none⟩ (.int .i64 v)) ow L.ob (L.s x.id) x := by
    intro x hx
    obtain ⟨y, hy, rfl⟩ := List.mem_map.1 hx
    by_cases e : y.id = s.id
    · rw [if_pos e]
      exact ⟨(k.at_ (.st s.id 0) (by simp) (by simp) _ hS.tb hS.blk.lt).1.trans hS.blk, hS.tb, hi, hS.ti, (k.at_ (.st s.id 2) (by simp) (by simp) _ hS.to hS.outw.lt).1.trans hS.outw, hS.to, (k.at_ (.st s.id 3) (by simp) (by simp) _ hS.tp hS.pair.lt).1.trans hS.pair, hS.tp,
        (k.at_ (.st s.id 4) (by simp) (by simp) _ hS.tr hS.row.lt).1.trans hS.row, hS.tr, hS.waits.turn (fun g hlt ho => k.at_ (.st s.id 5) (by simp) (by simp) g ho hlt) k.size⟩
    · rw [if_neg e]
      exact h.p.strK k y hy (by intro j; simp; intro e2; exact absurd e2 e)
  refine ⟨⟨hbk.1, hbk.2, ⟨h.p.fedK k (by simp), h.p.outK k (by simp), h.p.evK k (by simp) (by simp), (h.p.inwK k (by simp)).1, (h.p.inwK k (by simp)).2, (h.p.outwK k (by simp)).1, (h.p.outwK k (by simp)).2, ?_, (h.p.mapK k (by simp)).2, hst, h.p.lstK k (by simp) (by simp), h.p.encK k (by simp), h.p.decK k (by simp)⟩, fun g hg => h.new g (by omega)⟩, ?_⟩
  · show SM _ _ _ _ ((updS M.strs { s with inw := v }).map (·.id)) _
    rw [updS_ids]
    exact (h.p.mapK k (by simp)).1
  · exact Fr.grown (grown_setCell (World.grownBy.refl w (some (L.s s.id).ib)) 0 _) fun g e => by injection e with e; subst e; rw [hS.ti]; simp
end
theorem infC_win (s n : Nat) : infC { typ := 8, stream := s, inc := n } (.slice none 0 0) (.slice none 0 0) = #[.int .i64 8, .int .i64 0, .int .i64 (s : Nat), .bool false, .bool false, .bool false, .bool false, .bool false, .bool false, .int .i64 0, .int .i64 0, .int .i64 0, .int .i64 0, .int .i64 0, .int .i64 (n : Nat), .int .i64 0, .slice none 0 0, .slice none 0 0] := rfl
theorem flg_win (s n : Nat) : flg { typ := 8, stream := s, inc := n } = 0 := by simp [flg]
theorem pay_win (s n : Nat) : pay { typ := 8, stream := s, inc := n } = be n 4 := by simp [pay]
set_option maxHeartbeats 4000000 in
set_option maxRecDepth 100000 in
/-- Bytes are given back to the connection's window. -/
theorem gives_conn (w : World) (ow : Nat → Tg) (b : Nat) (M : Cv) (L : Lay) (n : Nat) (h : CN w ow b M L) (h0 : 0 < n) (hn : n ≤ 2147483647) (ha : -2147483647 ≤ M.inw ∧ M.inw ≤ 2147483647) (hs : M.inw + n ≤ 2147483647) (ho : M.out.length ≤ 1000000000) :
    Calls Tryz.prog 147 #[.pointer (some ⟨b, 0, none⟩), .int .i64 0, .int .i64 (n : Nat)] w (CPostL w ow b L { M with inw := M.inw + n, out := M.out ++ frameB 8 0 0 (be n 4) } (.tuple #[])) := by
  have hg := h.inws (M.inw + n)
  have HG := Lib.hid (give_yes w L.ib M.inw n h.p.inw ha h0 hs hn)
  have HP := put_anyL _ ow b _ L _ _ hg.1 rfl (bld_win _ 0 n h0 hn (by decide)) ho
  rw [infC_win, flg_win, pay_win] at HP
  have HP := Lib.hid HP
  have HF := Lib.hid hg.2
  have c8 : w.cell? ⟨b, 8, none⟩ = some (.pointer (some ⟨L.ib, 0, none⟩)) := h.blk.cell 8
  have k0 : ((n : Int) == 0) = false := by simp; omega
  have k0' : ((n : Int) = 0) = False := by simp; omega
  clear hg h ha hs hn h0 ho
  go_enter Tryz.func147, Tryz.ntmps147
  go_wp2_with fail
  refine HG.out.mono ?_
  rintro e w1 ⟨rfl, rfl⟩
  go_wp2_with fail
  refine HP.out.mono ?_
  rintro e w2 ⟨ow2, L2, rfl, hc2, hf2, hl2⟩
  have HQ := Lib.hid (show _ ∧ _ ∧ _ from ⟨hc2, hf2, hl2⟩)
  clear hc2 hf2 hl2
  go_wp2
  go_end0
  exact ⟨ow2, L2, rfl, HQ.out.1, HF.out.trans HQ.out.2.1, HQ.out.2.2⟩
set_option maxHeartbeats 4000000 in
set_option maxRecDepth 100000 in
/-- Bytes are given back to a stream's window. -/
theorem gives_str (w : World) (ow : Nat → Tg) (b : Nat) (M : Cv) (L : Lay) (s : Sv) (n : Nat) (h : CN w ow b M L) (hst : strAt M (s.id : Int) = some s) (hid : 0 < s.id ∧ s.id ≤ 2147483647) (h0 : 0 < n) (hn : n ≤ 2147483647) (ha : -2147483647 ≤ s.inw ∧ s.inw ≤ 2147483647) (hs : s.inw + n ≤ 2147483647) (ho : M.out.length ≤ 1000000000) :
    Calls Tryz.prog 147 #[.pointer (some ⟨b, 0, none⟩), .int .i64 (s.id : Nat), .int .i64 (n : Nat)] w (CPostL w ow b L { M with strs := updS M.strs { s with inw := s.inw + n }, out := M.out ++ frameB 8 0 s.id (be n 4) } (.tuple #[])) := by
  obtain ⟨h1, hmem, _⟩ := at_some (L := L) hst
  have hS := h.p.strs s hmem
  have hg := h.sins hmem (s.inw + n)
  have HG := Lib.hid (give_yes w (L.s s.id).ib s.inw n hS.inw ha h0 hs hn)
  have HP := put_anyL _ ow b _ L _ _ hg.1 rfl (bld_win _ s.id n h0 hn hid.2) ho
  rw [infC_win, flg_win, pay_win] at HP
  have HP := Lib.hid HP
  have HF := Lib.hid hg.2
  have hw : (Lit.int .i64 (s.id : Int)).wf = true := by simp [Lit.wf, IntKind.min, IntKind.max, IntKind.bits, IntKind.signed]; omega
  have c8 : w.cell? ⟨b, 8, none⟩ = some (.pointer (some ⟨L.ib, 0, none⟩)) := h.blk.cell 8
  have c15 : w.cell? ⟨b, 15, none⟩ = some (.map (some L.mb)) := h.blk.cell 15
  have hlk := look_str h (s.id : Int) hw
  rw [h1] at hlk
  have d3 : w.cell? ⟨(L.s s.id).sb, 3, none⟩ = some (.pointer (some ⟨(L.s s.id).ib, 0, none⟩)) := hS.blk.cell 3
  have k0 : ((n : Int) == 0) = false := by simp; omega
  have k0' : ((n : Int) = 0) = False := by simp; omega
  have k1 : ((0 : Int) < (s.id : Int)) = True := by simp; omega
  have k1' : (0 < s.id) = True := by simp; omega
  clear hg h ha hs hn h0 ho hS hst h1 hmem hid hw
  go_enter Tryz.func147, Tryz.ntmps147
  go_wp2_with fail
  refine HG.out.mono ?_
  rintro e w1 ⟨rfl, rfl⟩
  go_wp2_with fail
  refine HP.out.mono ?_
  rintro e w2 ⟨ow2, L2, rfl, hc2, hf2, hl2⟩
  have HQ := Lib.hid (show _ ∧ _ ∧ _ from ⟨hc2, hf2, hl2⟩)
  clear hc2 hf2 hl2
  go_wp2
  go_end0
  exact ⟨ow2, L2, rfl, HQ.out.1, HF.out.trans HQ.out.2.1, HQ.out.2.2⟩
end Go.Proofs.YtkpppjhbmnfmkaaGreatDoor
end

section
namespace Go.Proofs.YtkpppjhbmnfmkaaGreatDoor
open Go.RowKit Go.Own Go.Own.Im Go.Own.Cx Go.Own.Fr
/-- What two windows leave of n. -/
def prm (n x y : Int) : Int := max 0 (min (max 0 (min n x)) y)
def PrR (n x y : Int) (w : World) (nv iv : Value) (wr : World) : Prop :=
  wr = w ∧ ((iv = .int .i64 0 ∧ nv = .int .i64 n) ∨ (iv = .int .i64 1 ∧ nv = .int .i64 (max 0 (min n x))) ∨ (iv = .int .i64 2 ∧ nv = .int .i64 (prm n x y)))
set_option maxHeartbeats 4000000 in
set_option maxRecDepth 100000 in
theorem pair_room (w : World) (pb rb a c : Nat) (x y n : Int) (hp : Blk w pb 206 #[.slice (some ⟨rb, 0, none⟩) 2 2]) (hr : Blk w rb 75 #[.pointer (some ⟨a, 0, none⟩), .pointer (some ⟨c, 0, none⟩)]) (ha : Blk w a 177 #[.int .i64 x]) (hc : Blk w c 177 #[.int .i64 y]) :
    Calls Tryz.prog 75 #[.pointer (some ⟨pb, 0, none⟩), .int .i64 n] w fun e w' => e = .returned (.int .i64 (prm n x y)) ∧ w' = w := by
  have hmf : ∀ (fn : Fn) (first cap : Array Value) (w : World), (Instr.makeFunc fn first cap).run Tryz.prog w = .ok (.func fn first cap) w := fun _ _ _ _ => rfl
  have c0 : w.cell? ⟨pb, 0, none⟩ = some (.slice (some ⟨rb, 0, none⟩) 2 2) := hp.cell 0
  have r0 : w.cell? ⟨rb, 0, none⟩ = some (.pointer (some ⟨a, 0, none⟩)) := hr.cell 0
  have r1 : w.cell? ⟨rb, 1, none⟩ = some (.pointer (some ⟨c, 0, none⟩)) := hr.cell 1
  have HA := Lib.hid (fun n => wroom_any w a x n ha)
  have HC := Lib.hid (fun n => wroom_any w c y n hc)
  clear hp hr ha hc
  go_enter Tryz.func75, Tryz.ntmps75
  go_upto_region 2 with fail
  go_loopw [1, 13] (fun nv iv wr => Hid (PrR n x y w nv iv wr)) (fun _ iv _ => 2 - (intOf iv).toNat)
  case atStart => exact ⟨rfl, .inl ⟨rfl, rfl⟩⟩
  case round =>
    obtain ⟨rfl, h⟩ := hrel
    rcases h with ⟨rfl, rfl⟩ | ⟨rfl, rfl⟩ | ⟨rfl, rfl⟩
    · go_wp2_with fail
      refine (HA.out n).mono ?_
      rintro e w1 ⟨rfl, hw⟩
      subst w1
      generalize hm : max 0 (min n x) = m
      have HM := Lib.hid hm
      clear hm
      go_wp2_with fail
      exact ⟨⟨rfl, .inr (.inl ⟨rfl, by rw [HM.out]⟩)⟩, by simp [intOf]⟩
    · obtain ⟨m, hm⟩ : ∃ m, max 0 (min n x) = m := ⟨_, rfl⟩
      rw [hm]
      have HM := Lib.hid hm
      clear hm
      go_wp2_with fail
      refine (HC.out m).mono ?_
      rintro e w1 ⟨rfl, hw⟩
      subst w1
      obtain ⟨m2, hm2⟩ : ∃ m2, max 0 (min m y) = m2 := ⟨_, rfl⟩
      rw [hm2]
      have HM2 := Lib.hid (show prm n x y = m2 by unfold prm; rw [HM.out]; exact hm2)
      clear hm2
      go_wp2_with fail
      exact ⟨⟨rfl, .inr (.inr ⟨rfl, by rw [HM2.out]⟩)⟩, by simp [intOf]⟩
    · obtain ⟨m, hm⟩ : ∃ m, prm n x y = m := ⟨_, rfl⟩
      have hmx : max 0 m = m := by rw [← hm]; unfold prm; omega
      have HM := Lib.hid hm
      rw [hm]
      clear hm
      go_wp2
      go_ret
      exact ⟨by rw [HM.out]; rfl, rfl⟩
/-- Behind the first of the two takes. -/
def PtR (n x : Int) (a : Nat) (y : Int) (c : Nat) (w : World) (iv : Value) (wr : World) : Prop :=
  (iv = .int .i64 0 ∧ wr = w) ∨ (iv = .int .i64 1 ∧ wr = w.setCell ⟨a, 0, none⟩ (.int .i64 (x - n))) ∨ (iv = .int .i64 2 ∧ wr = (w.setCell ⟨a, 0, none⟩ (.int .i64 (x - n))).setCell ⟨c, 0, none⟩ (.int .i64 (y - n)))
def PmR (w : World) (iv : Value) (wr : World) : Prop := wr = w ∧ (iv = .int .i64 0 ∨ iv = .int .i64 1 ∨ iv = .int .i64 2)
set_option maxHeartbeats 8000000 in
set_option maxRecDepth 100000 in
theorem pair_take (w : World) (pb rb a c : Nat) (x y : Int) (n : Nat) (hp : Blk w pb 206 #[.slice (some ⟨rb, 0, none⟩) 2 2]) (hr : Blk w rb 75 #[.pointer (some ⟨a, 0, none⟩), .pointer (some ⟨c, 0, none⟩)]) (ha : Blk w a 177 #[.int .i64 x]) (hc : Blk w c 177 #[.int .i64 y])
    (hpa : pb ≠ a) (hra : rb ≠ a) (hca : c ≠ a) (hpc : pb ≠ c) (hrc : rb ≠ c) (hnx : (n : Int) ≤ x) (hny : (n : Int) ≤ y) (hx : x ≤ 2147483647) (hy : y ≤ 2147483647) :
    Calls Tryz.prog 76 #[.pointer (some ⟨pb, 0, none⟩), .int .i64 (n : Nat)] w fun e w' => e = .returned .nilIface ∧ w' = (w.setCell ⟨a, 0, none⟩ (.int .i64 (x - (n : Int)))).setCell ⟨c, 0, none⟩ (.int .i64 (y - (n : Int))) := by
  have hmf : ∀ (fn : Fn) (first cap : Array Value) (w : World), (Instr.makeFunc fn first cap).run Tryz.prog w = .ok (.func fn first cap) w := fun _ _ _ _ => rfl
  have c0 : w.cell? ⟨pb, 0, none⟩ = some (.slice (some ⟨rb, 0, none⟩) 2 2) := hp.cell 0
  have r0 : w.cell? ⟨rb, 0, none⟩ = some (.pointer (some ⟨a, 0, none⟩)) := hr.cell 0
  have r1 : w.cell? ⟨rb, 1, none⟩ = some (.pointer (some ⟨c, 0, none⟩)) := hr.cell 1
  have HA := Lib.hid (may_yes w a x n ha (.inl hnx))
  have HC := Lib.hid (may_yes w c y n hc (.inl hny))
  have HTa := Lib.hid (take_yes w a x n ha (.inl hnx) ⟨by omega, hx⟩ (by omega))
  have HTc := Lib.hid (take_yes (w.setCell ⟨a, 0, none⟩ (.int .i64 (x - (n : Int)))) c y n ((Below.heap_setCell w _ _ _ hca).trans hc) (.inl hny) ⟨by omega, hy⟩ (by omega))
  have HR1 := Lib.hid (show (w.setCell ⟨a, 0, none⟩ (.int .i64 (x - (n : Int)))).cell? ⟨rb, 1, none⟩ = some (.pointer (some ⟨c, 0, none⟩)) from (show Blk (w.setCell ⟨a, 0, none⟩ (.int .i64 (x - (n : Int)))) rb 75 _ from (Below.heap_setCell w _ _ _ hra).trans hr).cell 1)
  clear hp hr ha hc hpa hra hca hpc hrc hnx hny hx hy
  go_enter Tryz.func76, Tryz.ntmps76
  go_upto_region 2 with fail
  go_loopw [18] (fun iv wr => Hid (PmR w iv wr)) (fun iv _ => 2 - (intOf iv).toNat)
  case atStart => exact ⟨rfl, .inl rfl⟩
  case round =>
    obtain ⟨hw, h⟩ := hrel
    subst wr
    rcases h with rfl | rfl | rfl
    · go_wp2_with fail
      refine HA.out.mono ?_
      rintro e w1 ⟨rfl, hw⟩
      subst w1
      go_wp2_with fail
      exact ⟨⟨rfl, .inr (.inl rfl)⟩, by simp [intOf]⟩
    · go_wp2_with fail
      refine HC.out.mono ?_
      rintro e w1 ⟨rfl, hw⟩
      subst w1
      go_wp2_with fail
      exact ⟨⟨rfl, .inr (.inr rfl)⟩, by simp [intOf]⟩
    · go_upto_region 10 with fail
      go_loopw [36] (fun iv wr => Hid (PtR n x a y c w iv wr)) (fun iv _ => 2 - (intOf iv).toNat)
      case atStart => exact .inl ⟨rfl, rfl⟩
      case round =>
        rcases hrel with ⟨rfl, hw⟩ | ⟨rfl, hw⟩ | ⟨rfl, hw⟩
        · subst wr
          go_wp2_with fail
          refine HTa.out.mono ?_
          rintro e w1 ⟨rfl, hw⟩
          subst w1
          go_wp2_with fail
          exact ⟨.inr (.inl ⟨rfl, rfl⟩), by simp [intOf]⟩
        · subst wr
          have r1' := HR1.out
          go_wp2_with fail
          refine HTc.out.mono ?_
          rintro e w1 ⟨rfl, hw⟩
          subst w1
          go_wp2_with fail
          exact ⟨.inr (.inr ⟨rfl, rfl⟩), by simp [intOf]⟩
        · subst wr
          go_wp2
          go_ret
          exact ⟨rfl, rfl⟩
end Go.Proofs.YtkpppjhbmnfmkaaGreatDoor
end

section
namespace Go.Proofs.YtkpppjhbmnfmkaaGreatDoor
open Go.RowKit Go.Own Go.Own.Im Go.Own.Cx Go.Own.Fr
section
variable {w : World} {ow : Nat → Tg} {b : Nat} {M : Cv} {L : Lay}
theorem CN.outws (h : CN w ow b M L) (v : Int) : CN (w.setCell ⟨L.ob, 0, none⟩ (.int .i64 v)) ow b { M with outw := v } L ∧ Fr w ow (w.setCell ⟨L.ob, 0, none⟩ (.int .i64 v)) ow := by
  have hsz : (w.setCell ⟨L.ob, 0, none⟩ (.int .i64 v)).heap.size = w.heap.size := by simp [World.setCell]
  have k : Kp (fun x => x = .outw) w ow (w.setCell ⟨L.ob, 0, none⟩ (.int .i64 v)) ow :=
    ⟨by omega, fun g _ ht _ => ⟨Below.heap_setCell w _ _ g (fun e => ht (by rw [e]; exact h.p.to)), rfl⟩⟩
  have hbk := h.blkK k (by decide)
  have hi : Blk (w.setCell ⟨L.ob, 0, none⟩ (.int .i64 v)) L.ob 177 #[.int .i64 v] := h.p.outw.put 0 (.int .i64 v)
  refine ⟨⟨hbk.1, hbk.2, ⟨h.p.fedK k (by decide), h.p.outK k (by decide), h.p.evK k (by decide) (by decide), (h.p.inwK k (by decide)).1, (h.p.inwK k (by decide)).2, hi, h.p.to, (h.p.mapK k (by decide)).1, (h.p.mapK k (by decide)).2, fun s hs => h.p.strK k s hs (by intro j; simp), h.p.lstK k (by decide) (by decide), h.p.encK k (by decide), h.p.decK k (by decide)⟩, fun g hg => h.new g (by omega)⟩, ?_⟩
  exact Fr.grown (grown_setCell (World.grownBy.refl w (some L.ob)) 0 _) fun g e => by injection e with e; subst e; rw [h.p.to]; decide
theorem CN.souts (h : CN w ow b M L) {s : Sv} (hs : s ∈ M.strs) (v : Int) : CN (w.setCell ⟨(L.s s.id).ob, 0, none⟩ (.int .i64 v)) ow b { M with strs := updS M.strs { s with outw := v } } L ∧ Fr w ow (w.setCell ⟨(L.s s.id).ob, 0, none⟩ (.int .i64 v)) ow := by
  have hS := h.p.strs s hs
  have hsz : (w.setCell ⟨(L.s s.id).ob, 0, none⟩ (.int .i64 v)).heap.size = w.heap.size := by simp [World.setCell]
  have k : Kp (fun x => x = .st s.id 2) w ow (w.setCell ⟨(L.s s.id).ob, 0, none⟩ (.int .i64 v)) ow :=
    ⟨by omega, fun g _ ht _ => ⟨Below.heap_setCell w _ _ g (fun e => ht (by rw [e]; exact hS.to)), rfl⟩⟩
  have hbk := h.blkK k (by simp)
  have hi : Blk (w.setCell ⟨(L.s s.id).ob, 0, none⟩ (.int .i64 v)) (L.s s.id).ob 177 #[.int .i64 v] := hS.outw.put 0 (.int .i64 v)
  have hst : ∀ x ∈ updS M.strs { s with outw := v }, SN (w.setCell ⟨(L.s s.id).ob, 0, none⟩ (.int .i64 v)) ow L.ob (L.s x.id) x := by
    intro x hx
    obtain ⟨y, hy, rfl⟩ := List.mem_map.1 hx
    by_cases e : y.id = s.id
    · rw [if_pos e]
      exact ⟨(k.at_ (.st s.id 0) (by simp) (by simp) _ hS.tb hS.blk.lt).1.trans hS.blk, hS.tb, (k.at_ (.st s.id 1) (by simp) (by simp) _ hS.ti hS.inw.lt).1.trans hS.inw, hS.ti, hi, hS.to, (k.at_ (.st s.id 3) (by simp) (by simp) _ hS.tp hS.pair.lt).1.trans hS.pair, hS.tp,
        (k.at_ (.st s.id 4) (by simp) (by simp) _ hS.tr hS.row.lt).1.trans hS.row, hS.tr, hS.waits.turn (fun g hlt ho => k.at_ (.st s.id 5) (by simp) (by simp) g ho hlt) k.size⟩
    · rw [if_neg e]
      exact h.p.strK k y hy (by intro j; simp; intro e2; exact absurd e2 e)
  refine ⟨⟨hbk.1, hbk.2, ⟨h.p.fedK k (by simp), h.p.outK k (by simp), h.p.evK k (by simp) (by simp), (h.p.inwK k (by simp)).1, (h.p.inwK k (by simp)).2, (h.p.outwK k (by simp)).1, (h.p.outwK k (by simp)).2, ?_, (h.p.mapK k (by simp)).2, hst, h.p.lstK k (by simp) (by simp), h.p.encK k (by simp), h.p.decK k (by simp)⟩, fun g hg => h.new g (by omega)⟩, ?_⟩
  · show SM _ _ _ _ ((updS M.strs { s with outw := v }).map (·.id)) _
    rw [updS_ids]
    exact (h.p.mapK k (by simp)).1
  · exact Fr.grown (grown_setCell (World.grownBy.refl w (some (L.s s.id).ob)) 0 _) fun g e => by injection e with e; subst e; rw [hS.to]; simp
/-- What waits is another. -/
theorem CN.waitsAre (h : CN w ow b M L) {s : Sv} (hs : s ∈ M.strs) {v : Value} {l : List UInt8} (hO : Oz w (fun g => ow g = .st s.id 5) v l) :
    ∃ ow' L', CN (w.setCell ⟨(L.s s.id).sb, 6, none⟩ v) ow' b { M with strs := updS M.strs { s with waits := l } } L' ∧ Fr w ow (w.setCell ⟨(L.s s.id).sb, 6, none⟩ v) ow' ∧ ∀ id, (L'.s id).sb = (L.s id).sb :=
  h.waited (row := none) hs (hO.owned fun g _ e => .inl e) (World.grownBy.refl w none) (fun g e => by cases e)
end
end Go.Proofs.YtkpppjhbmnfmkaaGreatDoor
end

section
namespace Go.Proofs.YtkpppjhbmnfmkaaGreatDoor
open Go.RowKit Go.Own Go.Own.Im Go.Own.Cx Go.Own.Fr
/-- A stream of which k bytes were sent. -/
def goneS (s : Sv) (k : Nat) : Sv := { s with outw := s.outw - k, waits := s.waits.drop k }
/-- An end behind a piece of k bytes. -/
def goneC (M : Cv) (s : Sv) (k : Nat) (fin : Bool) : Cv := { M with outw := M.outw - k, strs := updS M.strs (goneS s k), out := M.out ++ frameB 0 (if fin then 1 else 0) s.id (s.waits.take k) }
theorem infC_data (s : Nat) (e : Bool) (l : List UInt8) (v : Value) : infC { typ := 0, stream := s, endd := e, data := l } (.slice none 0 0) v = #[.int .i64 0, .int .i64 0, .int .i64 (s : Nat), .bool e, .bool false, .bool false, .bool false, .bool false, .bool false, .int .i64 0, .int .i64 0, .int .i64 0, .int .i64 0, .int .i64 0, .int .i64 0, .int .i64 0, .slice none 0 0, v] := rfl
theorem flg_data (s : Nat) (e : Bool) (l : List UInt8) : flg { typ := 0, stream := s, endd := e, data := l } = if e then 1 else 0 := by cases e <;> simp [flg]
theorem prm_le (n x y : Int) (k : Nat) (h : prm n x y = (k : Int)) (h0 : 0 < k) : (k : Int) ≤ n ∧ (k : Int) ≤ x ∧ (k : Int) ≤ y := by
  unfold prm at h
  omega
set_option maxHeartbeats 16000000 in
set_option maxRecDepth 100000 in
theorem sends_data (w : World) (ow : Nat → Tg) (b : Nat) (M : Cv) (L : Lay) (s : Sv) (n k : Nat) (fin : Bool) (h : CN w ow b M L) (hs : s ∈ M.strs) (hu : (M.strs.map (·.id)).Nodup) (hid : 0 < s.id ∧ s.id ≤ 2147483647) (hown : s.own = 2) (htr : s.trails = false) (hh : s.held = 0) (hn : s.waits.length = n) (hn2 : n ≤ 1000000)
    (hk : prm (min (n : Int) 16384) M.outw s.outw = (k : Int)) (h0 : 0 < k) (hfin : fin = decide (k = n)) (hx : M.outw ≤ 2147483647) (hy : s.outw ≤ 2147483647) (ho : M.out.length ≤ 1000000000) :
    Calls Tryz.prog 43 #[.pointer (some ⟨b, 0, none⟩), .pointer (some ⟨(L.s s.id).sb, 0, none⟩)] w (CPost w ow b (finM (goneC M s k fin) (goneS s k) fin) (.bool true)) := by
  obtain ⟨hkn, hkx, hky⟩ := prm_le _ _ _ _ hk h0
  have hS := h.p.strs s hs
  have hkn1 : k ≤ n := by omega
  have hkn2 : k ≤ 16384 := by omega
  obtain ⟨A0, c0, hA0, hc0, hc0m⟩ := hS.waits.form
  rw [hn] at hA0 hc0
  -- the calls
  have HRoom := Lib.hid (pair_room w (L.s s.id).pb (L.s s.id).rb L.ob (L.s s.id).ob M.outw s.outw (min (n : Int) 16384) hS.pair hS.row h.p.outw hS.outw)
  rw [hk] at HRoom
  have ne1 : (L.s s.id).pb ≠ L.ob := fun e => by have h1 := hS.tp; rw [e, h.p.to] at h1; cases h1
  have ne2 : (L.s s.id).rb ≠ L.ob := fun e => by have h1 := hS.tr; rw [e, h.p.to] at h1; cases h1
  have ne3 : (L.s s.id).ob ≠ L.ob := fun e => by have h1 := hS.to; rw [e, h.p.to] at h1; cases h1
  have ne4 : (L.s s.id).pb ≠ (L.s s.id).ob := fun e => by have h1 := hS.tp; rw [e, hS.to] at h1; simp at h1
  have ne5 : (L.s s.id).rb ≠ (L.s s.id).ob := fun e => by have h1 := hS.tr; rw [e, hS.to] at h1; simp at h1
  have HTake := Lib.hid (pair_take w (L.s s.id).pb (L.s s.id).rb L.ob (L.s s.id).ob M.outw s.outw k hS.pair hS.row h.p.outw hS.outw ne1 ne2 ne3 ne4 ne5 hkx hky hx hy)
  have g1 := h.outws (M.outw - k)
  have g2 := g1.1.souts (s := s) hs (s.outw - k)
  have HC2 := Lib.hid g2.1
  have HF2 := Lib.hid (g1.2.trans g2.2)
  generalize hW2 : ((w.setCell ⟨L.ob, 0, none⟩ (.int .i64 (M.outw - (k : Int)))).setCell ⟨(L.s s.id).ob, 0, none⟩ (.int .i64 (s.outw - (k : Int)))) = W2 at *
  have hm2 : ({ s with outw := s.outw - k } : Sv) ∈ updS M.strs { s with outw := s.outw - k } := mem_updS hs rfl
  have hS2 := g2.1.p.strs _ hm2
  have hoz2 : Oz W2 (fun g => ow g = .st s.id 5) (.slice A0 n c0) s.waits := hA0 ▸ hS2.waits
  have hrd2 := hoz2.rd
  have hput : ∀ W, CN W ow b { M with outw := M.outw - k, strs := updS M.strs { s with outw := s.outw - k } } L → Rd W W.heap.size A0 n s.waits → Calls Tryz.prog 39 #[.pointer (some ⟨b, 0, none⟩), .agg #[.int .i64 0, .int .i64 0, .int .i64 (s.id : Nat), .bool fin, .bool false, .bool false, .bool false, .bool false, .bool false, .int .i64 0, .int .i64 0, .int .i64 0, .int .i64 0, .int .i64 0, .int .i64 0, .int .i64 0, .slice none 0 0, .slice A0 k c0]] W (CPostL W ow b L { M with outw := M.outw - k, strs := updS M.strs { s with outw := s.outw - k }, out := M.out ++ frameB 0 (if fin then 1 else 0) s.id (s.waits.take k) } (.tuple #[])) := by
    intro W hcW hrW
    have hput := put_anyL W ow b _ L { typ := 0, stream := s.id, endd := fin, data := s.waits.take k } _ hcW rfl (bld_data W s.id fin A0 k c0 W.heap.size (s.waits.take k) (hrW.head hkn1) (Nat.le_refl _) (by omega) (by omega) hid.2) ho
    rw [infC_data, flg_data, show pay { typ := 0, stream := s.id, endd := fin, data := s.waits.take k } = s.waits.take k from rfl] at hput
    exact hput
  have HPuta := Lib.hid (hput W2 g2.1 hrd2)
  have HPutb := Lib.hid (hput W2.drew g2.1.drew hrd2)
  have HH := Lib.hid (show _ ∧ _ ∧ _ ∧ _ ∧ _ ∧ _ ∧ _ ∧ _ from ⟨hs, hu, hid, hh, hn, hkn1, hc0, hn2⟩)
  have HA := Lib.hid hA0
  have HFin := Lib.hid hfin
  have HM2 := Lib.hid hm2
  have hbl := hS.blk
  have hbl2 := hS2.blk
  have d6 : w.cell? ⟨(L.s s.id).sb, 6, none⟩ = some (.slice A0 n c0) := hA0 ▸ hbl.cell 6
  have d5 : w.cell? ⟨(L.s s.id).sb, 5, none⟩ = some (.pointer (some ⟨(L.s s.id).pb, 0, none⟩)) := hbl.cell 5
  have e0 : W2.cell? ⟨(L.s s.id).sb, 0, none⟩ = some (.int .i64 (s.id : Nat)) := hbl2.cell 0
  have e1 : W2.cell? ⟨(L.s s.id).sb, 1, none⟩ = some (.int .i64 2) := by have e : W2.cell? ⟨(L.s s.id).sb, 1, none⟩ = some (.int .i64 (s.own : Nat)) := hbl2.cell 1; rw [hown] at e; exact e
  have e6 : W2.cell? ⟨(L.s s.id).sb, 6, none⟩ = some (.slice A0 n c0) := hA0 ▸ hbl2.cell 6
  have e7 : W2.cell? ⟨(L.s s.id).sb, 7, none⟩ = some (.bool false) := by have e : W2.cell? ⟨(L.s s.id).sb, 7, none⟩ = some (.bool s.trails) := hbl2.cell 7; rw [htr] at e; exact e
  have k0 : ((k : Int) = 0) = False := by simp; omega
  have k0' : (k = 0) = False := by simp; omega
  have kn : ((0 : Int) < (n : Int)) = True := by simp; omega
  have kn' : (0 < n) = True := by simp; omega
  have kc : ((k : Int) ≤ (c0 : Int)) = True := by simp; omega
  have kc' : (k ≤ c0) = True := by simp; omega
  have HS6 := Lib.hid (show W2.cell? ⟨(L.s s.id).sb, 0, none⟩ = some (.int .i64 (s.id : Nat)) ∧ W2.cell? ⟨(L.s s.id).sb, 6, none⟩ = some (.slice A0 n c0) from ⟨e0, e6⟩)
  have HS6d := Lib.hid (show W2.drew.cell? ⟨(L.s s.id).sb, 0, none⟩ = some (.int .i64 (s.id : Nat)) ∧ W2.drew.cell? ⟨(L.s s.id).sb, 6, none⟩ = some (.slice A0 n c0) from ⟨e0, e6⟩)
  have k00 : ((k : Int) == 0) = false := by simp; omega
  obtain ⟨A5, hA5⟩ : ∃ A5, (if c0 = k then A0 else A0.map fun x => x.add k) = A5 := ⟨_, rfl⟩
  obtain ⟨n5, hn5⟩ : ∃ n5, n - k = n5 := ⟨_, rfl⟩
  obtain ⟨c5, hc5⟩ : ∃ c5, c0 - k = c5 := ⟨_, rfl⟩
  have hcut := run_from (P := Tryz.prog) byteP A0 n c0 k hkn1 hc0
  rw [hA5, hn5, hc5] at hcut
  have HCut := Lib.hid (show _ ∧ _ ∧ _ from ⟨hA5, hn5, hc5⟩)
  clear hA5 hn5 hc5
  have hcase : (fin = true ∧ k = n) ∨ (fin = false ∧ ((k : Int) == (n : Int)) = false ∧ ((k : Int) = (n : Int)) = False ∧ (k = n) = False) := by
    rw [hfin]
    by_cases e : k = n
    · exact .inl ⟨decide_eq_true e, e⟩
    · exact .inr ⟨decide_eq_false e, by simp; omega, by simp; omega, by simp; omega⟩
  obtain ⟨sb, hsb⟩ : ∃ g, (L.s s.id).sb = g := ⟨_, rfl⟩
  have HSb := Lib.hid hsb
  rw [hsb] at d6 d5 e0 e1 e6 e7 HS6 HS6d ⊢
  clear h hs hu hid hown htr hh hn hn2 hk h0 hfin hx hy ho hkn hkx hky hS hkn1 hkn2 hc0m hA0 hc0 ne1 ne2 ne3 ne4 ne5 g1 g2 hW2 hm2 hS2 hoz2 hrd2 hput hbl hbl2 hsb
  rcases hcase with ⟨rfl, rfl⟩ | ⟨rfl, kn1, kn2, kn3⟩
  · go_enter Tryz.func43, Tryz.ntmps43
    go_wp2_with fail
    refine HRoom.out.mono ?_
    rintro e w1 ⟨rfl, hw⟩
    subst w1
    go_wp2_with fail
    refine HTake.out.mono ?_
    rintro e w1 ⟨rfl, hw⟩
    subst w1
    clear d5 d6
    go_upto_region 7 with fail
    go_region_held3 (fun W' => W'.cell? ⟨sb, 0, none⟩ = some (.int .i64 (s.id : Nat)) ∧ W'.cell? ⟨sb, 6, none⟩ = some (.slice A0 k c0)) (first | with_reducible exact HS6.out | with_reducible exact HS6d.out | with_reducible exact HS13.out) (first
      | (go_at_call 39
         first | with_reducible refine Calls.mono HPuta.out ?_ | with_reducible refine Calls.mono HPutb.out ?_
         rintro e w3 ⟨ow3, L3, rfl, hc3, hf3, hl3⟩
         have hf3' := HF2.out.trans (show Fr W2 ow w3 ow3 from by first | exact hf3 | exact (Fr.drewN W2 ow 1).trans hf3)
         have HF3 := Lib.hid hf3'
         have HC3 := Lib.hid hc3
         have HL3 := Lib.hid hl3
         have hb3 := (hc3.p.strs _ HM2.out).blk
         have hz3 := (hc3.p.strs _ HM2.out).waits
         rw [show (L3.s ({ s with outw := s.outw - k } : Sv).id).waits = .slice A0 k c0 from by rw [hl3]; exact HA.out] at hz3
         rw [show (L3.s ({ s with outw := s.outw - k } : Sv).id).sb = sb from by rw [hl3]; exact HSb.out] at hb3
         have HZ3 := Lib.hid hz3
         have x0 : w3.cell? ⟨sb, 0, none⟩ = some (.int .i64 (s.id : Nat)) := hb3.cell 0
         have x6 : w3.cell? ⟨sb, 6, none⟩ = some (L3.s s.id).waits := hb3.cell 6
         rw [hl3, HA.out] at x6
         have xf6 := hb3.frozen 6
         have HS13 := Lib.hid (show w3.cell? ⟨sb, 0, none⟩ = some (.int .i64 (s.id : Nat)) ∧ w3.cell? ⟨sb, 6, none⟩ = some (.slice A0 k c0) from ⟨x0, x6⟩)
         clear hc3 hf3 hf3' hl3 hb3 hz3)
      | fail)
    clear x0 HS13 HPuta HPutb HS6 HS6d HRoom HTake
    have hz4 := HZ3.out.cut (k := k) HH.out.2.2.2.2.2.1
    rw [HCut.out.1, HCut.out.2.1, HCut.out.2.2] at hz4
    obtain ⟨ow4, L4, hc4, hf4, hl4⟩ := HC3.out.waitsAre HM2.out hz4
    rw [show (L3.s ({ s with outw := s.outw - k } : Sv).id).sb = sb from by rw [HL3.out]; exact HSb.out] at hc4 hf4
    have e2 := updS_two M.strs (s1 := { s with outw := s.outw - k }) (s2 := goneS s k) rfl
    have e4 : (L4.s (goneS s k).id).sb = sb := (hl4 s.id).trans (by rw [HL3.out]; exact HSb.out)
    generalize hW4 : w3.setCell ⟨sb, 6, none⟩ (.slice A5 n5 c5) = W4 at *
    have hc4' : CN W4 ow4 b (goneC M s k true) L4 := (congrArg (fun l => CN W4 ow4 b ({ goneC M s k true with strs := l } : Cv) L4) e2).mp hc4
    have hfi := finishes_any W4 ow4 b (goneC M s k true) L4 (goneS s k) true hc4' (mem_updS HH.out.1 rfl) HH.out.2.2.2.1 HH.out.2.2.1.2 (by show ((updS M.strs (goneS s k)).map (·.id)).Nodup; rw [updS_ids]; exact HH.out.2.1)
    rw [e4] at hfi
    have HFi := Lib.hid hfi
    have HF4 := Lib.hid (HF3.out.trans hf4)
    clear hz4 hc4 hf4 hl4 e2 e4 hc4' hfi
    go_wp2_with fail
    refine HFi.out.mono ?_
    intro e w5 hp
    obtain rfl := hp.ret
    have HQ := Lib.hid (hp.trans HF4.out)
    clear hp
    go_wp2
    go_ret
    obtain ⟨ow5, L5, _, hc5, hf5⟩ := HQ.out
    exact ⟨ow5, L5, rfl, hc5, hf5⟩
  · go_enter Tryz.func43, Tryz.ntmps43
    go_wp2_with fail
    refine HRoom.out.mono ?_
    rintro e w1 ⟨rfl, hw⟩
    subst w1
    go_wp2_with fail
    refine HTake.out.mono ?_
    rintro e w1 ⟨rfl, hw⟩
    subst w1
    clear d5 d6
    go_upto_region 7 with fail
    go_region_held3 (fun W' => W'.cell? ⟨sb, 0, none⟩ = some (.int .i64 (s.id : Nat)) ∧ W'.cell? ⟨sb, 6, none⟩ = some (.slice A0 n c0)) (first | with_reducible exact HS6.out | with_reducible exact HS6d.out | with_reducible exact HS13.out) (first
      | (go_at_call 39
         first | with_reducible refine Calls.mono HPuta.out ?_ | with_reducible refine Calls.mono HPutb.out ?_
         rintro e w3 ⟨ow3, L3, rfl, hc3, hf3, hl3⟩
         have hf3' := HF2.out.trans (show Fr W2 ow w3 ow3 from by first | exact hf3 | exact (Fr.drewN W2 ow 1).trans hf3)
         have HF3 := Lib.hid hf3'
         have HC3 := Lib.hid hc3
         have HL3 := Lib.hid hl3
         have hb3 := (hc3.p.strs _ HM2.out).blk
         have hz3 := (hc3.p.strs _ HM2.out).waits
         rw [show (L3.s ({ s with outw := s.outw - k } : Sv).id).waits = .slice A0 n c0 from by rw [hl3]; exact HA.out] at hz3
         rw [show (L3.s ({ s with outw := s.outw - k } : Sv).id).sb = sb from by rw [hl3]; exact HSb.out] at hb3
         have HZ3 := Lib.hid hz3
         have x0 : w3.cell? ⟨sb, 0, none⟩ = some (.int .i64 (s.id : Nat)) := hb3.cell 0
         have x6 : w3.cell? ⟨sb, 6, none⟩ = some (L3.s s.id).waits := hb3.cell 6
         rw [hl3, HA.out] at x6
         have xf6 := hb3.frozen 6
         have HS13 := Lib.hid (show w3.cell? ⟨sb, 0, none⟩ = some (.int .i64 (s.id : Nat)) ∧ w3.cell? ⟨sb, 6, none⟩ = some (.slice A0 n c0) from ⟨x0, x6⟩)
         clear hc3 hf3 hf3' hl3 hb3 hz3)
      | fail)
    clear x0 HS13 HPuta HPutb HS6 HS6d HRoom HTake
    have hz4 := HZ3.out.cut (k := k) HH.out.2.2.2.2.2.1
    rw [HCut.out.1, HCut.out.2.1, HCut.out.2.2] at hz4
    obtain ⟨ow4, L4, hc4, hf4, hl4⟩ := HC3.out.waitsAre HM2.out hz4
    rw [show (L3.s ({ s with outw := s.outw - k } : Sv).id).sb = sb from by rw [HL3.out]; exact HSb.out] at hc4 hf4
    have e2 := updS_two M.strs (s1 := { s with outw := s.outw - k }) (s2 := goneS s k) rfl
    have e4 : (L4.s (goneS s k).id).sb = sb := (hl4 s.id).trans (by rw [HL3.out]; exact HSb.out)
    generalize hW4 : w3.setCell ⟨sb, 6, none⟩ (.slice A5 n5 c5) = W4 at *
    have hc4' : CN W4 ow4 b (goneC M s k false) L4 := (congrArg (fun l => CN W4 ow4 b ({ goneC M s k false with strs := l } : Cv) L4) e2).mp hc4
    have hfi := finishes_any W4 ow4 b (goneC M s k false) L4 (goneS s k) false hc4' (mem_updS HH.out.1 rfl) HH.out.2.2.2.1 HH.out.2.2.1.2 (by show ((updS M.strs (goneS s k)).map (·.id)).Nodup; rw [updS_ids]; exact HH.out.2.1)
    rw [e4] at hfi
    have HFi := Lib.hid hfi
    have HF4 := Lib.hid (HF3.out.trans hf4)
    clear hz4 hc4 hf4 hl4 e2 e4 hc4' hfi
    go_wp2_with fail
    refine HFi.out.mono ?_
    intro e w5 hp
    obtain rfl := hp.ret
    have HQ := Lib.hid (hp.trans HF4.out)
    clear hp
    go_wp2
    go_ret
    obtain ⟨ow5, L5, _, hc5, hf5⟩ := HQ.out
    exact ⟨ow5, L5, rfl, hc5, hf5⟩
end Go.Proofs.YtkpppjhbmnfmkaaGreatDoor
end

section
namespace Go.Proofs.YtkpppjhbmnfmkaaGreatDoor
open Go.RowKit Go.Own Go.Own.Im Go.Own.Cx Go.Own.Fr
set_option maxHeartbeats 4000000 in
set_option maxRecDepth 100000 in
theorem sends_zero (w : World) (ow : Nat → Tg) (b : Nat) (M : Cv) (L : Lay) (s : Sv) (n : Nat) (h : CN w ow b M L) (hs : s ∈ M.strs) (hn : s.waits.length = n) (hn0 : 0 < n) (hn2 : n ≤ 1000000)
    (hk : prm (min (n : Int) 16384) M.outw s.outw = 0) :
    Calls Tryz.prog 43 #[.pointer (some ⟨b, 0, none⟩), .pointer (some ⟨(L.s s.id).sb, 0, none⟩)] w fun e w' => e = .returned (.bool false) ∧ w' = w := by
  have hS := h.p.strs s hs
  obtain ⟨A0, c0, hA0, hc0, hc0m⟩ := hS.waits.form
  rw [hn] at hA0 hc0
  have HRoom := Lib.hid (pair_room w (L.s s.id).pb (L.s s.id).rb L.ob (L.s s.id).ob M.outw s.outw (min (n : Int) 16384) hS.pair hS.row h.p.outw hS.outw)
  rw [hk] at HRoom
  have hbl := hS.blk
  have d6 : w.cell? ⟨(L.s s.id).sb, 6, none⟩ = some (.slice A0 n c0) := hA0 ▸ hbl.cell 6
  have d5 : w.cell? ⟨(L.s s.id).sb, 5, none⟩ = some (.pointer (some ⟨(L.s s.id).pb, 0, none⟩)) := hbl.cell 5
  have kn : ((0 : Int) < (n : Int)) = True := by simp; omega
  have kn' : (0 < n) = True := by simp; omega
  clear h hs hn hn0 hn2 hk hS hA0 hc0 hc0m hbl
  generalize (L.s s.id).sb = sb at *
  go_enter Tryz.func43, Tryz.ntmps43
  go_wp2_with fail
  refine HRoom.out.mono ?_
  rintro e w1 ⟨rfl, hw⟩
  subst w1
  go_wp2
  go_ret
  exact ⟨rfl, rfl⟩
/-- An end behind a frame that only ends. -/
def endedC (M : Cv) (s : Sv) : Cv := { M with out := M.out ++ frameB 0 1 s.id [] }
set_option maxHeartbeats 8000000 in
set_option maxRecDepth 100000 in
theorem sends_end (w : World) (ow : Nat → Tg) (b : Nat) (M : Cv) (L : Lay) (s : Sv) (h : CN w ow b M L) (hs : s ∈ M.strs) (hu : (M.strs.map (·.id)).Nodup) (hid : 0 < s.id ∧ s.id ≤ 2147483647) (hown : s.own = 2) (htr : s.trails = false) (hh : s.held = 0) (hn : s.waits = []) (ho : M.out.length ≤ 1000000000) :
    Calls Tryz.prog 43 #[.pointer (some ⟨b, 0, none⟩), .pointer (some ⟨(L.s s.id).sb, 0, none⟩)] w (CPost w ow b (finM (endedC M s) s true) (.bool true)) := by
  have hS := h.p.strs s hs
  obtain ⟨A0, c0, hA0, hc0, hc0m⟩ := hS.waits.form
  rw [hn] at hA0
  have hbl := hS.blk
  have hA0' : (L.s s.id).waits = .slice A0 0 c0 := hA0
  have d6 : w.cell? ⟨(L.s s.id).sb, 6, none⟩ = some (.slice A0 0 c0) := hA0' ▸ hbl.cell 6
  have d0 : w.cell? ⟨(L.s s.id).sb, 0, none⟩ = some (.int .i64 (s.id : Nat)) := hbl.cell 0
  have d1 : w.cell? ⟨(L.s s.id).sb, 1, none⟩ = some (.int .i64 2) := by have e : w.cell? ⟨(L.s s.id).sb, 1, none⟩ = some (.int .i64 (s.own : Nat)) := hbl.cell 1; rw [hown] at e; exact e
  have d7 : w.cell? ⟨(L.s s.id).sb, 7, none⟩ = some (.bool false) := by have e : w.cell? ⟨(L.s s.id).sb, 7, none⟩ = some (.bool s.trails) := hbl.cell 7; rw [htr] at e; exact e
  have hput := put_anyL w ow b M L { typ := 0, stream := s.id, endd := true, data := [] } _ h rfl (bld_data w s.id true none 0 0 w.heap.size [] (rd_nil0 w _) (Nat.le_refl _) (by decide) (by omega) hid.2) ho
  rw [infC_data, flg_data, show pay { typ := 0, stream := s.id, endd := true, data := [] } = [] from rfl] at hput
  have HPut := Lib.hid hput
  have HH := Lib.hid (show _ ∧ _ ∧ _ ∧ _ from ⟨hs, hu, hid, hh⟩)
  obtain ⟨sb, hsb⟩ : ∃ g, (L.s s.id).sb = g := ⟨_, rfl⟩
  have HSb := Lib.hid hsb
  rw [hsb] at d6 d0 d1 d7 ⊢
  clear h hs hu hid hown htr hh hn ho hS hA0 hA0' hc0 hc0m hbl hput hsb
  go_enter Tryz.func43, Tryz.ntmps43
  go_wp2_with fail
  refine HPut.out.mono ?_
  rintro e w3 ⟨ow3, L3, rfl, hc3, hf3, hl3⟩
  have hfi := finishes_any w3 ow3 b (endedC M s) L3 s true hc3 HH.out.1 HH.out.2.2.2 HH.out.2.2.1.2 HH.out.2.1
  rw [show (L3.s s.id).sb = sb from by rw [hl3]; exact HSb.out] at hfi
  have HFi := Lib.hid hfi
  have HF3 := Lib.hid hf3
  clear hc3 hf3 hl3 hfi d6 d0 d1 d7
  go_wp2_with fail
  refine HFi.out.mono ?_
  intro e w5 hp
  obtain rfl := hp.ret
  have HQ := Lib.hid (hp.trans HF3.out)
  clear hp
  go_wp2
  go_ret
  obtain ⟨ow5, L5, _, hc5, hf5⟩ := HQ.out
  exact ⟨ow5, L5, rfl, hc5, hf5⟩
end Go.Proofs.YtkpppjhbmnfmkaaGreatDoor
end

section
namespace Go.Proofs.YtkpppjhbmnfmkaaGreatDoor
open Go.RowKit Go.Own Go.Own.Im Go.Own.Cx Go.Own.Fr
/-- What sends does to an end with one stream. -/
def SdT (M M' : Cv) (r : Bool) : Prop := ∀ w ow b L s, CN w ow b M L → M.strs = [s] → Calls Tryz.prog 43 #[.pointer (some ⟨b, 0, none⟩), .pointer (some ⟨(L.s s.id).sb, 0, none⟩)] w (CPost w ow b M' (.bool r))
def OneS (M : Cv) : Prop := M.dead = false ∧ ∃ s, M.strs = [s] ∧ s.id ≤ 2147483647
/-- Rounds of Output. -/
inductive Snd : Nat → Cv → Cv → Prop
  | stop {M : Cv} (h1 : OneS M) (h2 : SdT M M false) : Snd 0 M M
  | more {n : Nat} {M M1 M2 : Cv} (h1 : OneS M) (h2 : SdT M M1 true) (h3 : M.out.length < M1.out.length) (h4 : Snd n M1 M2) : Snd (n + 1) M M2
theorem Snd.le {n : Nat} {M M' : Cv} (h : Snd n M M') : M.out.length ≤ M'.out.length := by
  induction h with
  | stop => exact Nat.le_refl _
  | more _ _ h3 _ ih => omega
theorem Snd.one {n : Nat} {M M' : Cv} (h : Snd n M M') : OneS M := by
  cases h with
  | stop h1 => exact h1
  | more h1 => exact h1
theorem Snd.step {n : Nat} {M M' : Cv} (h : Snd n M M') : ∃ r M1, SdT M M1 r ∧ ((r = false ∧ M1 = M') ∨ (r = true ∧ M.out.length < M1.out.length ∧ ∃ k, Snd k M1 M')) ∧ M.out.length ≤ M1.out.length := by
  cases h with
  | stop h1 h2 => exact ⟨false, _, h2, .inl ⟨rfl, rfl⟩, Nat.le_refl _⟩
  | more h1 h2 h3 h4 => exact ⟨true, _, h2, .inr ⟨rfl, h3, _, h4⟩, Nat.le_of_lt h3⟩
/-- How many bytes wait to go out. -/
def outN (b : Nat) (w : World) : Nat := match w.cell? ⟨b, 6, none⟩ with | some (.slice _ n _) => n | _ => 0
theorem outN_of {w : World} {ow : Nat → Tg} {b : Nat} {M : Cv} {L : Lay} (h : CN w ow b M L) : outN b w = M.out.length := by
  have c6 : w.cell? ⟨b, 6, none⟩ = some L.out := h.blk.cell 6
  obtain ⟨A, c, hL, _⟩ := h.p.out.form
  rw [hL] at c6
  unfold outN
  rw [c6]
/-- Between two rounds. -/
def SoR (w : World) (ow : Nat → Tg) (b : Nat) (M' : Cv) (t : Value) (wr : World) : Prop :=
  (t = .bool true ∧ ∃ n Mr owr Lr, Snd n Mr M' ∧ CN wr owr b Mr Lr ∧ Fr w ow wr owr) ∨ (t = .bool false ∧ ∃ owr Lr, CN wr owr b M' Lr ∧ Fr w ow wr owr)
def SiR (w : World) (ow : Nat → Tg) (b : Nat) (M1 : Cv) (r : Bool) (w1 : World) (t3 t16 : Value) (wx : World) : Prop :=
  (t3 = .bool false ∧ t16 = .int .i64 0 ∧ wx = w1) ∨ (t3 = .bool r ∧ t16 = .int .i64 1 ∧ ∃ ow2 L2, CN wx ow2 b M1 L2 ∧ Fr w ow wx ow2)
def tru (t : Value) : Nat := match t with | .bool true => 1 | _ => 0
set_option maxHeartbeats 8000000 in
set_option maxRecDepth 100000 in
theorem output_sends (w : World) (ow : Nat → Tg) (b : Nat) (M M' : Cv) (L : Lay) (n : Nat) (h : CN w ow b M L) (hs : Snd n M M') :
    Calls Tryz.prog 13 #[.pointer (some ⟨b, 0, none⟩)] w (OutPost w ow b M') := by
  have c19 : w.cell? ⟨b, 19, none⟩ = some (.bool false) := by
    have e : w.cell? ⟨b, 19, none⟩ = some (.bool M.dead) := h.blk.cell 19
    rw [hs.one.1] at e
    exact e
  have HC := Lib.hid h
  have HSnd := Lib.hid hs
  clear h hs
  go_enter Tryz.func13, Tryz.ntmps13
  go_wp2
  clear c19
  go_loopw [3] (fun t wr => Hid (SoR w ow b M' t wr)) (fun t wr => tru t + (M'.out.length - outN b wr))
  case atStart => exact .inl ⟨rfl, n, M, ow, L, HSnd.out, HC.out, Fr.refl w ow⟩
  case round =>
    rcases hrel.out with ⟨rfl, nr, Mr, owr, Lr, hsnd, hcr, hfr⟩ | ⟨rfl, owr, Lr, hcr, hfr⟩
    · clear hrel
      obtain ⟨_, s, hstr, hid⟩ := hsnd.one
      obtain ⟨r, M1, hsd, hres, hgrow⟩ := hsnd.step
      have HOut := Lib.hid (outN_of hcr)
      have HCr := Lib.hid hcr
      have HFr := Lib.hid hfr
      have HId := Lib.hid (ids_any wr owr b Mr Lr hcr (by rw [hstr]; exact List.pairwise_singleton _ _) (by rw [hstr]; exact (show 1 ≤ 1000000 by decide)))
      have HSt := Lib.hid (show _ ∧ _ from ⟨hstr, hid⟩)
      have HSd := Lib.hid (fun w ow L hc => hsd w ow b L s hc hstr)
      have HRes := Lib.hid hres
      have HGr := Lib.hid hgrow
      clear hsnd hcr hfr hstr hid hsd hres hgrow
      cases r
      · go_wp2_with fail
        refine HId.out.mono ?_
        rintro e w1 ⟨v, rfl, hrow, hb1⟩
        rw [HSt.out.1] at hrow
        have hcell : ∃ g c, v = .slice (some ⟨g, 0, none⟩) 1 c ∧ w1.cell? ⟨g, 0, none⟩ = some (.int .i64 (s.id : Nat)) := by
          rcases hrow.2 with ⟨e, h0⟩ | ⟨g, cap, cur, e, _⟩
          · simp at h0
          · refine ⟨g, cap, e, ?_⟩
            have := World.ownsRow.cells hrow (g := g) (by rw [e]; rfl) 0 (.int .i64 (s.id : Nat)) (by simp [encZ])
            rw [Addr.add_lit, Nat.zero_add] at this
            exact this
        obtain ⟨g, c1, rfl, hcell⟩ := hcell
        have HB1 := Lib.hid hb1
        have HC1 := Lib.hid (HCr.out.below hb1)
        have HF1 := Lib.hid (HFr.out.trans (Fr.below hb1 owr))
        have HCl := Lib.hid hcell
        have hwf : (Lit.int .i64 (s.id : Int)).wf = true := by have := HSt.out.2; simp [Lit.wf, IntKind.min, IntKind.max, IntKind.bits, IntKind.signed]; omega
        have hlk := look_str HC1.out (s.id : Int) hwf
        have hat : strAt Mr (s.id : Int) = some s := by unfold strAt; rw [HSt.out.1]; simp
        rw [(at_some (L := Lr) hat).1] at hlk
        have c15 : w1.cell? ⟨b, 15, none⟩ = some (.map (some Lr.mb)) := HC1.out.blk.cell 15
        have HLk := Lib.hid (show _ ∧ _ from ⟨hlk, c15⟩)
        clear hrow hb1 hcell hwf hat hlk c15
        go_upto_region 5 with fail
        go_loopw [3, 16] (fun t3 t16 wx => Hid (SiR w ow b M1 false w1 t3 t16 wx)) (fun _ t16 _ => 1 - (intOf t16).toNat)
        case atStart => exact .inl ⟨rfl, rfl, rfl⟩
        case round =>
          rcases hrel with ⟨rfl, rfl, hwx⟩ | ⟨rfl, rfl, ow2, L2, hc2, hf2⟩
          · subst wr
            have hlk := HLk.out.1
            have c15 := HLk.out.2
            have hcl := HCl.out
            go_wp2_with fail
            refine (HSd.out w1 owr Lr HC1.out).mono ?_
            intro e w2 hp
            obtain rfl := hp.ret
            have HP := Lib.hid hp
            clear hp hlk c15 hcl
            go_wp2_with fail
            obtain ⟨ow2, L2, _, hc2, hf2⟩ := HP.out
            exact ⟨.inr ⟨rfl, rfl, ow2, L2, hc2, HF1.out.trans hf2⟩, by simp [intOf]⟩
          · have HC2 := Lib.hid hc2
            have HF2 := Lib.hid hf2
            have HO2 := Lib.hid (outN_of hc2)
            clear hc2 hf2
            go_wp2_with fail
            rw [HOut.out, HO2.out]
            have hg := HGr.out
            rcases HRes.out with ⟨_, e1⟩ | ⟨e1, _⟩
            · exact ⟨.inr ⟨rfl, ow2, L2, e1 ▸ HC2.out, HF2.out⟩, by simp only [tru]; omega⟩
            · cases e1
      · go_wp2_with fail
        refine HId.out.mono ?_
        rintro e w1 ⟨v, rfl, hrow, hb1⟩
        rw [HSt.out.1] at hrow
        have hcell : ∃ g c, v = .slice (some ⟨g, 0, none⟩) 1 c ∧ w1.cell? ⟨g, 0, none⟩ = some (.int .i64 (s.id : Nat)) := by
          rcases hrow.2 with ⟨e, h0⟩ | ⟨g, cap, cur, e, _⟩
          · simp at h0
          · refine ⟨g, cap, e, ?_⟩
            have := World.ownsRow.cells hrow (g := g) (by rw [e]; rfl) 0 (.int .i64 (s.id : Nat)) (by simp [encZ])
            rw [Addr.add_lit, Nat.zero_add] at this
            exact this
        obtain ⟨g, c1, rfl, hcell⟩ := hcell
        have HB1 := Lib.hid hb1
        have HC1 := Lib.hid (HCr.out.below hb1)
        have HF1 := Lib.hid (HFr.out.trans (Fr.below hb1 owr))
        have HCl := Lib.hid hcell
        have hwf : (Lit.int .i64 (s.id : Int)).wf = true := by have := HSt.out.2; simp [Lit.wf, IntKind.min, IntKind.max, IntKind.bits, IntKind.signed]; omega
        have hlk := look_str HC1.out (s.id : Int) hwf
        have hat : strAt Mr (s.id : Int) = some s := by unfold strAt; rw [HSt.out.1]; simp
        rw [(at_some (L := Lr) hat).1] at hlk
        have c15 : w1.cell? ⟨b, 15, none⟩ = some (.map (some Lr.mb)) := HC1.out.blk.cell 15
        have HLk := Lib.hid (show _ ∧ _ from ⟨hlk, c15⟩)
        clear hrow hb1 hcell hwf hat hlk c15
        go_upto_region 5 with fail
        go_loopw [3, 16] (fun t3 t16 wx => Hid (SiR w ow b M1 true w1 t3 t16 wx)) (fun _ t16 _ => 1 - (intOf t16).toNat)
        case atStart => exact .inl ⟨rfl, rfl, rfl⟩
        case round =>
          rcases hrel with ⟨rfl, rfl, hwx⟩ | ⟨rfl, rfl, ow2, L2, hc2, hf2⟩
          · subst wr
            have hlk := HLk.out.1
            have c15 := HLk.out.2
            have hcl := HCl.out
            go_wp2_with fail
            refine (HSd.out w1 owr Lr HC1.out).mono ?_
            intro e w2 hp
            obtain rfl := hp.ret
            have HP := Lib.hid hp
            clear hp hlk c15 hcl
            go_wp2_with fail
            obtain ⟨ow2, L2, _, hc2, hf2⟩ := HP.out
            exact ⟨.inr ⟨rfl, rfl, ow2, L2, hc2, HF1.out.trans hf2⟩, by simp [intOf]⟩
          · have HC2 := Lib.hid hc2
            have HF2 := Lib.hid hf2
            have HO2 := Lib.hid (outN_of hc2)
            clear hc2 hf2
            go_wp2_with fail
            rw [HOut.out, HO2.out]
            have hg := HGr.out
            rcases HRes.out with ⟨e1, _⟩ | ⟨_, hlt, k, hk⟩
            · cases e1
            · have hle := hk.le
              exact ⟨.inl ⟨rfl, k, M1, ow2, L2, hk, HC2.out, HF2.out⟩, by simp only [tru]; omega⟩
    · have HCr := Lib.hid hcr
      have HFr := Lib.hid hfr
      obtain ⟨A, c, hL, hle, _⟩ := hcr.p.out.form
      have HL := Lib.hid (show _ ∧ _ from ⟨hL, hle⟩)
      have c6 : wr.cell? ⟨b, 6, none⟩ = some Lr.out := hcr.blk.cell 6
      rw [hL] at c6
      have f6 := hcr.blk.frozen 6
      clear hrel hcr hfr hL hle
      go_wp2
      go_ret
      obtain ⟨ow', L', r1, r2, r3, r4⟩ := HCr.out.gives HL.out.1
      exact ⟨A, c, ow', L', rfl, HL.out.2, r4.more (by simp [World.setCell]), r3, r1, HFr.out.trans r2⟩
end Go.Proofs.YtkpppjhbmnfmkaaGreatDoor
end
