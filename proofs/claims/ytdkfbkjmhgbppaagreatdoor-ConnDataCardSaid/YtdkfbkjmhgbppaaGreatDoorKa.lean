/-
  Contracts: flow's windows: may, Take, Room, Shift, Give, where they are let.
  Contract: parleylaw8.same of events without lists and bytes that read alike.
-/
import Derived.Test.YtdkfbkjmhgbppaaGreatDoorJh
import Derived.BigQuiet
import Derived.Test.YtdkfbkjmhgbppaaGreatDoorJt
set_option linter.unusedSimpArgs false
set_option linter.unusedVariables false
section
namespace Go.Proofs.YtdkfbkjmhgbppaaGreatDoor
open Go.RowKit Go.Own Go.Own.Im Go.Own.Cx Go.Own.Fr
set_option maxHeartbeats 1000000 in
theorem may_yes (w : World) (g : Nat) (a : Int) (n : Nat) (h : Blk w g 157 #[.int .i64 a]) (hn : (n : Int) ≤ a ∨ n = 0) :
    Calls Tryz.prog 112 #[.pointer (some ⟨g, 0, none⟩), .int .i64 (n : Nat)] w fun e w' => e = .returned .nilIface ∧ w' = w := by
  have c0 : w.cell? ⟨g, 0, none⟩ = some (.int .i64 a) := h.cell 0
  have k0 : ((n : Int) < 0) = False := by simp
  clear h
  rcases Nat.eq_zero_or_pos n with h0 | h0
  · subst h0
    clear hn k0
    go_enter Tryz.func112, Tryz.ntmps112
    go_wp2
    go_ret
    exact ⟨rfl, rfl⟩
  · have k1 : ((0 : Int) < (n : Int)) = True := by simp; omega
    have k1' : (0 < n) = True := by simp; omega
    have k2 : (a < (n : Int)) = False := by simp; omega
    clear hn h0
    go_enter Tryz.func112, Tryz.ntmps112
    go_wp2
    go_ret
    exact ⟨rfl, rfl⟩
set_option maxHeartbeats 1000000 in
theorem take_yes (w : World) (g : Nat) (a : Int) (n : Nat) (h : Blk w g 157 #[.int .i64 a]) (hn : (n : Int) ≤ a ∨ n = 0) (ha : -2147483648 ≤ a ∧ a ≤ 2147483647) (hn2 : n ≤ 2147483647) :
    Calls Tryz.prog 113 #[.pointer (some ⟨g, 0, none⟩), .int .i64 (n : Nat)] w fun e w' => e = .returned .nilIface ∧ w' = w.setCell ⟨g, 0, none⟩ (.int .i64 (a - (n : Int))) := by
  have c0 : w.cell? ⟨g, 0, none⟩ = some (.int .i64 a) := h.cell 0
  have f0 := h.frozen 0
  have HM := Lib.hid (may_yes w g a n h hn)
  have hw1 : wrap64 (a - (n : Int)) = a - (n : Int) := by unfold wrap64; omega
  have hw2 : IntKind.i64.wrap (a - (n : Int)) = a - (n : Int) := by rw [IntKind.wrap_i64]; omega
  clear h hn ha hn2
  go_enter Tryz.func113, Tryz.ntmps113
  go_wp2_with fail
  refine HM.out.mono ?_
  rintro e w1 ⟨rfl, hw⟩
  subst w1
  go_wp2
  go_ret
  exact ⟨rfl, rfl⟩
set_option maxHeartbeats 1000000 in
theorem wroom_any (w : World) (g : Nat) (a n : Int) (h : Blk w g 157 #[.int .i64 a]) :
    Calls Tryz.prog 111 #[.pointer (some ⟨g, 0, none⟩), .int .i64 n] w fun e w' => e = .returned (.int .i64 (max 0 (min n a))) ∧ w' = w := by
  have c0 : w.cell? ⟨g, 0, none⟩ = some (.int .i64 a) := h.cell 0
  clear h
  go_enter Tryz.func111, Tryz.ntmps111
  go_wp2
  all_goals
    go_ret
    refine ⟨congrArg (fun x => Ending.returned (Value.int .i64 x)) ?_, rfl⟩
    omega
set_option maxHeartbeats 2000000 in
theorem shift_yes (w : World) (g : Nat) (a n : Int) (h : Blk w g 157 #[.int .i64 a]) (ha : -2147483647 ≤ a ∧ a ≤ 2147483647) (hn : -2147483647 ≤ n ∧ n ≤ 2147483647) (hs : -2147483647 ≤ a + n ∧ a + n ≤ 2147483647) :
    Calls Tryz.prog 114 #[.pointer (some ⟨g, 0, none⟩), .int .i64 n] w fun e w' => e = .returned .nilIface ∧ w' = w.setCell ⟨g, 0, none⟩ (.int .i64 (a + n)) := by
  have c0 : w.cell? ⟨g, 0, none⟩ = some (.int .i64 a) := h.cell 0
  have f0 := h.frozen 0
  have hw1 : wrap64 (a + n) = a + n := by unfold wrap64; omega
  have hw2 : IntKind.i64.wrap (a + n) = a + n := by rw [IntKind.wrap_i64]; omega
  have k0 : (n < -2147483647) = False := by simp; omega
  have k1 : ((2147483647 : Int) < n) = False := by simp; omega
  have k2 : ((2147483647 : Int) < a + n) = False := by simp; omega
  have k3 : (a + n < -2147483647) = False := by simp; omega
  clear h ha hn hs
  go_enter Tryz.func114, Tryz.ntmps114
  go_wp2
  go_ret
  exact ⟨rfl, rfl⟩
set_option maxHeartbeats 1000000 in
theorem give_yes (w : World) (g : Nat) (a : Int) (n : Nat) (h : Blk w g 157 #[.int .i64 a]) (ha : -2147483647 ≤ a ∧ a ≤ 2147483647) (h0 : 1 ≤ n) (hs : a + n ≤ 2147483647) (hn : n ≤ 2147483647) :
    Calls Tryz.prog 75 #[.pointer (some ⟨g, 0, none⟩), .int .i64 (n : Nat)] w fun e w' => e = .returned .nilIface ∧ w' = w.setCell ⟨g, 0, none⟩ (.int .i64 (a + (n : Int))) := by
  have HS := Lib.hid (shift_yes w g a n h ha (by omega) (by omega))
  have k0 : ((n : Int) < 1) = False := by simp; omega
  clear h ha h0 hs hn
  go_enter Tryz.func75, Tryz.ntmps75
  go_wp2_with fail
  refine HS.out.mono ?_
  rintro e w1 ⟨rfl, hw⟩
  rw [hw]
  go_wp2
  go_ret
  exact ⟨rfl, rfl⟩
end Go.Proofs.YtdkfbkjmhgbppaaGreatDoor
end

section
namespace Go.Proofs.YtdkfbkjmhgbppaaGreatDoor
open Go.RowKit Go.Own Go.Own.Im Go.Own.Cx Go.Own.Fr Go.Own.Hd
set_option maxHeartbeats 1000000 in
theorem sameHeads0 (w : World) (A A2 : Option Addr) (c c2 : Nat) : Calls Tryz.prog 54 #[.slice A 0 c, .slice A2 0 c2] w fun e w' => e = .returned (.bool true) ∧ w' = w := by
  go_enter Tryz.func54, Tryz.ntmps54
  go_upto_region 4 with fail
  go_loopw [5] (fun iv wr => Hid (iv = .int .i64 0 ∧ wr = w)) (fun _ _ => 0)
  case atStart => exact ⟨rfl, rfl⟩
  case round =>
    obtain ⟨rfl, rfl⟩ := hrel
    go_wp2
    go_ret
    exact ⟨rfl, rfl⟩
/-- The cells of an event. -/
theorem ev_all {w : World} {B n j : Nat} {ad : Addr} {l : List EvV} {x : EvV} (h : Cm.RS evC 7 w B (some ad) n l) (hx : l[j]? = some x) :
    w.cell? (ad.add (j * 7)) = some (.int .i64 (x.kind : Nat)) ∧ w.cell? ⟨(ad.add (j * 7)).block, (ad.add (j * 7)).off + 1, none⟩ = some (.int .i64 (x.stream : Nat)) ∧ w.cell? ⟨(ad.add (j * 7)).block, (ad.add (j * 7)).off + 2, none⟩ = some (.int .i64 (x.code : Nat)) ∧
    w.cell? ⟨(ad.add (j * 7)).block, (ad.add (j * 7)).off + 3, none⟩ = some (.int .i64 (x.last : Nat)) ∧ w.cell? ⟨(ad.add (j * 7)).block, (ad.add (j * 7)).off + 4, none⟩ = some (.bool x.fin) ∧
    w.cell? ⟨(ad.add (j * 7)).block, (ad.add (j * 7)).off + 5, none⟩ = some (.slice x.la x.l.length x.lc) ∧ w.cell? ⟨(ad.add (j * 7)).block, (ad.add (j * 7)).off + 6, none⟩ = some (.slice x.ba x.by_.length x.bc) := by
  have hj : j < n := by rw [← h.1]; exact (List.getElem?_eq_some_iff.1 hx).1
  obtain ⟨ad', x', e, hx', h0, hr⟩ := h.at2 hj
  injection e with e
  subst e
  rw [hx] at hx'
  injection hx' with hx'
  subst hx'
  exact ⟨h0, hr 1 _ (by decide) rfl, hr 2 _ (by decide) rfl, hr 3 _ (by decide) rfl, hr 4 _ (by decide) rfl, hr 5 _ (by decide) rfl, hr 6 _ (by decide) rfl⟩
theorem rd_nilA (w : World) (B : Nat) (A : Option Addr) : Rd w B A 0 [] := ⟨rfl, fun h => absurd h (Nat.lt_irrefl _)⟩
/-- Between two rounds. -/
def SmR (w : World) (n : Nat) (iv : Value) (wr : World) : Prop := ∃ k : Nat, iv = .int .i64 (k : Nat) ∧ k ≤ n ∧ (∀ g : Nat, wr.heap[g]? = w.heap[g]?) ∧ Below w.heap.size w wr
set_option maxHeartbeats 8000000 in
set_option maxRecDepth 100000 in
theorem sameEv_any (w : World) (A A2 : Option Addr) (n c c2 B B2 : Nat) (l : List EvV) (h1 : Cm.RS evC 7 w B A n l) (h2 : Cm.RS evC 7 w B2 A2 n l) (hp : ∀ e ∈ l, e.l = [] ∧ e.by_ = []) (hn : n ≤ 100000) :
    Calls Tryz.prog 25 #[.slice A n c, .slice A2 n c2] w fun e w' => e = .returned (.bool true) ∧ Below w.heap.size w w' := by
  have H1 := Lib.hid h1
  have H2 := Lib.hid h2
  have HP := Lib.hid hp
  have HN := Lib.hid hn
  clear h1 h2 hp hn
  go_enter Tryz.func25, Tryz.ntmps25
  go_upto_region 4 with fail
  go_loopw [5] (fun iv wr => Hid (SmR w n iv wr)) (fun iv _ => n - (intOf iv).toNat)
  case atStart => exact ⟨0, rfl, Nat.zero_le _, fun _ => rfl, Below.refl _ _⟩
  case round =>
    obtain ⟨k, rfl, hkn, hsm, hb⟩ := hrel
    have HK := Lib.hid hkn
    have HB := Lib.hid hb
    have HSm := Lib.hid hsm
    have hsz := hb.size
    have H1r := Lib.hid (H1.out.keep hsz fun ad _ _ _ => hsm ad.block)
    have H2r := Lib.hid (H2.out.keep hsz fun ad _ _ _ => hsm ad.block)
    clear hsm hb hsz
    by_cases hlt : k < n
    · have hlt2 : (k : Int) < (n : Int) := by omega
      have i0 : (0 : Int) ≤ (k : Int) := by omega
      obtain ⟨ad, x, rfl, hx, _⟩ := H1r.out.at2 hlt
      obtain ⟨ad2, x2, rfl, hx2, _⟩ := H2r.out.at2 hlt
      obtain rfl : x = x2 := Option.some.inj (hx.symm.trans hx2)
      obtain ⟨a0, a1, a2, a3, a4, a5, a6⟩ := ev_all H1r.out hx
      obtain ⟨b0, b1, b2, b3, b4, b5, b6⟩ := ev_all H2r.out hx
      obtain ⟨hl0, hb0⟩ := HP.out x (List.mem_of_getElem? hx)
      obtain ⟨kd, st, co, la, fi, p1, q1, p2, q2, xl, xb⟩ := x
      simp only at hl0 hb0 a0 a1 a2 a3 a4 a5 a6 b0 b1 b2 b3 b4 b5 b6
      subst hl0 hb0
      simp only [List.length_nil] at a5 a6 b5 b6
      have hk1 : wrap64 ((k : Int) + 1) = ((k + 1 : Nat) : Int) := by have := HN.out; unfold wrap64; omega
      have HK1 := Lib.hid hk1
      have HSh := Lib.hid (fun W => sameHeads0 W p1 p1 q1 q1)
      have HSb := Lib.hid (fun W : World => (show Calls Tryz.prog 17 #[.slice p2 0 q2, .slice p2 0 q2] W fun e w' => e = .returned (.bool true) ∧ w' = W from
        (sameBytes_any p2 p2 0 0 q2 q2 [] [] W 0 0 (rd_nilA W 0 p2) (rd_nilA W 0 p2)).mono fun e w' h => ⟨h.1, h.2.symm⟩))
      clear hkn hx hx2 hk1
      generalize (kd : Int) = kd at *
      generalize (st : Int) = st at *
      generalize (co : Int) = co at *
      generalize (la : Int) = la at *
      go_wp2_with fail
      go_quiet ((go_at_call 54; exact Calls.quiet_of_same (HSh.out _)))
      have e9 : ∀ ad, wr.cell? ad = (wr.drewN nq).cell? ad := fun _ => rfl
      rw [e9] at a0 a1 a2 a3 a4 a5 a6 b0 b1 b2 b3 b4 b5 b6
      have HB2 := Lib.hid (below_drewN HB.out nq)
      have HSm2 := Lib.hid (show ∀ g : Nat, (wr.drewN nq).heap[g]? = w.heap[g]? from HSm.out)
      clear e9 HB HSm H1r H2r
      generalize wr.drewN nq = W1 at *
      go_wp2_with fail
      go_quiet ((go_at_call 17; exact Calls.quiet_of_same (HSb.out _)))
      have e9 : ∀ ad, W1.cell? ad = (W1.drewN nq).cell? ad := fun _ => rfl
      rw [e9] at a0 a1 a2 a3 a4 b0 b1 b2 b3 b4
      clear a5 a6 b5 b6
      have HB3 := Lib.hid (below_drewN HB2.out nq)
      have HSm3 := Lib.hid (show ∀ g : Nat, (W1.drewN nq).heap[g]? = w.heap[g]? from HSm2.out)
      clear e9 HB2 HSm2
      generalize W1.drewN nq = W2 at *
      go_wp2_with fail
      go_quiet (fail)
      go_wp2_with fail
      rw [HK1.out]
      exact ⟨⟨k + 1, rfl, hlt, fun g => HSm3.out g, below_drewN HB3.out _⟩, by simp [intOf]; omega⟩
    · obtain rfl : k = n := by have := HK.out; omega
      have hge : ¬ ((k : Int) < (k : Int)) := by omega
      go_wp2
      go_ret
      exact ⟨rfl, HB.out⟩
end Go.Proofs.YtdkfbkjmhgbppaaGreatDoor
end
