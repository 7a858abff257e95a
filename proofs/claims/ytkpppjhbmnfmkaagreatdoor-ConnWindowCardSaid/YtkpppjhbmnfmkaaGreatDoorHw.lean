/-
  Contract: frame.same: two that say the same, bytes and settings read alike.
-/
import Derived.Test.YtkpppjhbmnfmkaaGreatDoorHt
import Derived.Laws.StructEq
import Derived.Deep.QuietTactic
import Derived.BigQuiet
set_option linter.unusedSimpArgs false
set_option linter.unusedVariables false
namespace Go.Proofs.YtkpppjhbmnfmkaaGreatDoor
open Go.RowKit Go.Own Go.Own.Fr Go.Own.Im
set_option maxHeartbeats 8000000 in
set_option maxRecDepth 100000 in
theorem same_any (i : Inf) (sv sv2 : Value) (A A2 : Option Addr) (n c c2 B B2 : Nat) (W : World) (hs : SetR W sv i.sets) (hs2 : SetR W sv2 i.sets) (hr : Rd W B A n i.data) (hr2 : Rd W B2 A2 n i.data) (hB : B ≤ W.heap.size) (hB2 : B2 ≤ W.heap.size) (hl : i.sets.length ≤ 1000000) :
    Calls Tryz.prog 105 #[.agg (infC i sv (.slice A n c)), .agg (infC i sv2 (.slice A2 n c2))] W fun e w' => e = .returned (.bool true) ∧ Below W.heap.size W w' := by
  obtain ⟨S1, d1, rfl, hd1, hrs1⟩ := hs
  obtain ⟨S2, d2, rfl, hd2, hrs2⟩ := hs2
  obtain ⟨n0, h0⟩ : ∃ x, i.typ = x := ⟨_, rfl⟩
  obtain ⟨n1, h1⟩ : ∃ x, i.flags = x := ⟨_, rfl⟩
  obtain ⟨n2, h2⟩ : ∃ x, i.stream = x := ⟨_, rfl⟩
  obtain ⟨n3, h3⟩ : ∃ x, i.endd = x := ⟨_, rfl⟩
  obtain ⟨n4, h4⟩ : ∃ x, i.endHeads = x := ⟨_, rfl⟩
  obtain ⟨n5, h5⟩ : ∃ x, i.ack = x := ⟨_, rfl⟩
  obtain ⟨n6, h6⟩ : ∃ x, i.padded = x := ⟨_, rfl⟩
  obtain ⟨n7, h7⟩ : ∃ x, i.prio = x := ⟨_, rfl⟩
  obtain ⟨n8, h8⟩ : ∃ x, i.alone = x := ⟨_, rfl⟩
  obtain ⟨n9, h9⟩ : ∃ x, i.pad = x := ⟨_, rfl⟩
  obtain ⟨n10, h10⟩ : ∃ x, i.dep = x := ⟨_, rfl⟩
  obtain ⟨n11, h11⟩ : ∃ x, i.weight = x := ⟨_, rfl⟩
  obtain ⟨n12, h12⟩ : ∃ x, i.code = x := ⟨_, rfl⟩
  obtain ⟨n13, h13⟩ : ∃ x, i.last = x := ⟨_, rfl⟩
  obtain ⟨n14, h14⟩ : ∃ x, i.inc = x := ⟨_, rfl⟩
  obtain ⟨n15, h15⟩ : ∃ x, i.promise = x := ⟨_, rfl⟩
  have HXc := Lib.hid (fun (W' : World) (b : Nat) (u v : Value) (h : Blk W' b 91 (infC i u v)) => (show (W'.cell? ⟨b, 0, none⟩ = some (.int .i64 (n0 : Nat)) ∧ W'.cell? ⟨b, 1, none⟩ = some (.int .i64 (n1 : Nat)) ∧ W'.cell? ⟨b, 2, none⟩ = some (.int .i64 (n2 : Nat)) ∧ W'.cell? ⟨b, 3, none⟩ = some (.bool n3) ∧ W'.cell? ⟨b, 4, none⟩ = some (.bool n4) ∧ W'.cell? ⟨b, 5, none⟩ = some (.bool n5) ∧ W'.cell? ⟨b, 6, none⟩ = some (.bool n6) ∧ W'.cell? ⟨b, 7, none⟩ = some (.bool n7) ∧ W'.cell? ⟨b, 8, none⟩ = some (.bool n8) ∧ W'.cell? ⟨b, 9, none⟩ = some (.int .i64 (n9 : Nat)) ∧ W'.cell? ⟨b, 10, none⟩ = some (.int .i64 (n10 : Nat)) ∧ W'.cell? ⟨b, 11, none⟩ = some (.int .i64 (n11 : Nat)) ∧ W'.cell? ⟨b, 12, none⟩ = some (.int .i64 (n12 : Nat)) ∧ W'.cell? ⟨b, 13, none⟩ = some (.int .i64 (n13 : Nat)) ∧ W'.cell? ⟨b, 14, none⟩ = some (.int .i64 (n14 : Nat)) ∧ W'.cell? ⟨b, 15, none⟩ = some (.int .i64 (n15 : Nat))) ∧ W'.cell? ⟨b, 16, none⟩ = some u ∧ W'.cell? ⟨b, 17, none⟩ = some v from
    ⟨⟨by rw [← h0]; exact h.cell 0, by rw [← h1]; exact h.cell 1, by rw [← h2]; exact h.cell 2, by rw [← h3]; exact h.cell 3, by rw [← h4]; exact h.cell 4, by rw [← h5]; exact h.cell 5, by rw [← h6]; exact h.cell 6, by rw [← h7]; exact h.cell 7, by rw [← h8]; exact h.cell 8, by rw [← h9]; exact h.cell 9, by rw [← h10]; exact h.cell 10, by rw [← h11]; exact h.cell 11, by rw [← h12]; exact h.cell 12, by rw [← h13]; exact h.cell 13, by rw [← h14]; exact h.cell 14, by rw [← h15]; exact h.cell 15⟩, h.cell 16, h.cell 17⟩))
  clear h0 h1 h2 h3 h4 h5 h6 h7 h8 h9 h10 h11 h12 h13 h14 h15
  have HX1 := Lib.hid ((Blk.new W 91 (infC i (.slice S1 i.sets.length d1) (.slice A n c))).alloc (.cells (infC i (.slice S2 i.sets.length d2) (.slice A2 n c2)) 91))
  have HX2 := Lib.hid (show Blk ((W.alloc (.cells (infC i (.slice S1 i.sets.length d1) (.slice A n c)) 91)).alloc (.cells (infC i (.slice S2 i.sets.length d2) (.slice A2 n c2)) 91)) (W.heap.size + 1) 91 (infC i (.slice S2 i.sets.length d2) (.slice A2 n c2)) from by
    have h := Blk.new (W.alloc (.cells (infC i (.slice S1 i.sets.length d1) (.slice A n c)) 91)) 91 (infC i (.slice S2 i.sets.length d2) (.slice A2 n c2))
    rw [show (W.alloc (.cells (infC i (.slice S1 i.sets.length d1) (.slice A n c)) 91)).heap.size = W.heap.size + 1 by simp] at h
    exact h)
  have hb0 := (((Below.refl W.heap.size W).alloc (Nat.le_refl _) (.cells (infC i (.slice S1 i.sets.length d1) (.slice A n c)) 91)).alloc (by simp) (.cells (infC i (.slice S2 i.sets.length d2) (.slice A2 n c2)) 91))
  have HB0 := Lib.hid hb0
  have HS1 := Lib.hid (SetR.below (v := .slice S1 i.sets.length d1) (l := i.sets) ⟨S1, d1, rfl, hd1, hrs1⟩ hb0)
  have HS2 := Lib.hid (SetR.below (v := .slice S2 i.sets.length d2) (l := i.sets) ⟨S2, d2, rfl, hd2, hrs2⟩ hb0)
  have hR1 := (hr.more hB).below hb0
  have hR2 := (hr2.more hB2).below hb0
  have HXa := Lib.hid (fun (W' : World) (h : Blk W' W.heap.size 91 (infC i (.slice S1 i.sets.length d1) (.slice A n c))) => HXc.out W' W.heap.size _ _ h)
  have HXb := Lib.hid (fun (W' : World) (h : Blk W' (W.heap.size + 1) 91 (infC i (.slice S2 i.sets.length d2) (.slice A2 n c2))) => HXc.out W' (W.heap.size + 1) _ _ h)
  clear hrs1 hrs2 hb0 hr hr2 HXc
  generalize infC i (.slice S1 i.sets.length d1) (.slice A n c) = cs1 at *
  generalize infC i (.slice S2 i.sets.length d2) (.slice A2 n c2) = cs2 at *
  have HZ := Lib.hid (show ((W.alloc (.cells cs1 91)).alloc (.cells cs2 91)).heap.size = W.heap.size + 2 by simp)
  obtain ⟨l, hl0⟩ : ∃ l, i.sets = l := ⟨_, rfl⟩
  obtain ⟨dt, hdt⟩ : ∃ l, i.data = l := ⟨_, rfl⟩
  rw [hl0] at HS1 HS2 hl
  rw [hl0] at HXa HXb
  rw [hdt] at hR1 hR2
  clear hl0 hdt
  go_enter Tryz.func105, Tryz.ntmps105
  go_upto_region 1 with fail
  generalize (W.alloc (.cells cs1 91)).alloc (.cells cs2 91) = W0 at *
  have hq1 := run_str (P := Tryz.prog) (c := c) 22 9 5 Tryz.underlying22 Tryz.underlying5 Tryz.underlying9 hR1
  have hq2 := run_str (P := Tryz.prog) (c := c2) 22 9 5 Tryz.underlying22 Tryz.underlying5 Tryz.underlying9 hR2
  obtain ⟨_, a16, a17⟩ := HXa.out W0 HX1.out
  obtain ⟨_, b16, b17⟩ := HXb.out W0 HX2.out
  clear hR1 hR2
  have hnn : ((l.length : Int) != (l.length : Int)) = false := by simp
  go_wp2
  go_loopw [26] (fun t wr => Hid (∃ k : Nat, k ≤ l.length ∧ t = .int .i64 (k : Nat) ∧ Below W0.heap.size W0 wr)) (fun t _ => l.length - (intOf t).toNat)
  case atStart => exact Lib.hid ⟨0, Nat.zero_le _, rfl, Below.refl _ _⟩
  case round =>
    obtain ⟨k, hk, rfl, hb⟩ := hrel.out
    clear hrel hq1 hq2
    have HBb := Lib.hid hb
    have hX1 := HX1.out.below hb HX1.out.lt
    have hX2 := HX2.out.below hb HX2.out.lt
    by_cases hlt : k < l.length
    · obtain ⟨ad, rfl, hbl, q0, q1⟩ := (HS1.out.below hb).at_ hlt
      obtain ⟨ad2, rfl, hbl2, r0, r1⟩ := (HS2.out.below hb).at_ hlt
      obtain ⟨⟨x, y⟩, hxy⟩ : ∃ p, l.getD k (0, 0) = p := ⟨_, rfl⟩
      rw [hxy] at q0 q1 r0 r1
      simp only at q0 q1 r0 r1
      obtain ⟨_, a16, a17⟩ := HXa.out wr hX1
      obtain ⟨_, b16, b17⟩ := HXb.out wr hX2
      have HX2b := Lib.hid hX2
      clear hX1 hX2 hb hxy
      go_upto_region 6 with fail
      have HN := Lib.hid (Blk.new wr 87 #[.int .i64 (x : Nat), .int .i64 (y : Nat)])
      have r0' : (wr.alloc (.cells #[.int .i64 (x : Nat), .int .i64 (y : Nat)] 87)).cell? (ad2.add (k * 2)) = _ := (World.cell?_alloc_lt wr _ (ad2.add (k * 2)) (by rw [add_block]; exact hbl2)).trans r0
      have r1' : (wr.alloc (.cells #[.int .i64 (x : Nat), .int .i64 (y : Nat)] 87)).cell? ⟨(ad2.add (k * 2)).block, (ad2.add (k * 2)).off + 1, none⟩ = _ := (World.cell?_alloc_lt wr _ ⟨(ad2.add (k * 2)).block, (ad2.add (k * 2)).off + 1, none⟩ (by show (ad2.add (k * 2)).block < _; rw [add_block]; exact hbl2)).trans r1
      have HX2c := Lib.hid (HX2b.out.alloc (.cells #[.int .i64 (x : Nat), .int .i64 (y : Nat)] 87))
      have HB6 := Lib.hid (HBb.out.alloc HBb.out.size (.cells #[.int .i64 (x : Nat), .int .i64 (y : Nat)] 87))
      clear q0 q1 r0 r1 a16 a17 b16 b17
      generalize wr.alloc (.cells #[.int .i64 (x : Nat), .int .i64 (y : Nat)] 87) = W6 at *
      obtain ⟨_, b16, b17⟩ := HXb.out W6 HX2c.out
      have z0 : W6.cell? ⟨wr.heap.size, 0, none⟩ = some (.int .i64 (x : Nat)) := HN.out.cell 0
      have z1 : W6.cell? ⟨wr.heap.size, 1, none⟩ = some (.int .i64 (y : Nat)) := HN.out.cell 1
      have hi0 : (0 : Int) ≤ (k : Int) := by omega
      have hi1 : (k : Int) < (l.length : Int) := by omega
      go_quiet (fail)
      go_wp2
      exact ⟨Lib.hid ⟨k + 1, by omega, by go_num, below_drewN HB6.out _⟩, by simp [intOf]; omega⟩
    · obtain ⟨⟨a0, a1, a2, a3, a4, a5, a6, a7, a8, a9, a10, a11, a12, a13, a14, a15⟩, a16, a17⟩ := HXa.out wr hX1
      obtain ⟨⟨b0, b1, b2, b3, b4, b5, b6, b7, b8, b9, b10, b11, b12, b13, b14, b15⟩, b16, b17⟩ := HXb.out wr hX2
      have hge : ¬ (k : Int) < (l.length : Int) := by omega
      clear hX1 hX2 hb HX1 HX2 HS1 HS2 HXa HXb
      as_aux_lemma =>
        go_wp2
        go_ret
        exact ⟨rfl, HB0.out.trans (HBb.out.mono (by have := HZ.out; omega))⟩
end Go.Proofs.YtkpppjhbmnfmkaaGreatDoor
