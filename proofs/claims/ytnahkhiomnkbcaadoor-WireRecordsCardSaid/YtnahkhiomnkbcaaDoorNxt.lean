/-
  Contracts: wire.Next, Check: the record that bytes begin with; whether bytes are records.
-/
import Derived.Test.YtnahkhiomnkbcaaDoorGrp
namespace Go.Proofs.YtnahkhiomnkbcaaDoor
open Go.RowKit Go.Own Go.Own.Wire

/-- What Next answers. -/
def NextPost (ea : Nat → Addr) (w : World) (res : Except Nat (Rec × Nat)) (e : Ending) (w' : World) : Prop :=
  match res with
  | .error k => e = .returned (.tuple #[.agg (recCells 0 0 0 (.slice none 0 0)), .int .i64 0, .iface 88 (.pointer (some (ea k)))]) ∧ Below w.heap.size w w'
  | .ok (r, n) => ∃ v, e = .returned (.tuple #[.agg (recCells r.field r.kind r.u v), .int .i64 (n : Int), .nilIface]) ∧ Ow w' w.heap.size 5 v r.b.length r.b ∧ Below w.heap.size w w'

theorem next_tagErr {l : List UInt8} {k : Nat} (h : tagOf l = .error k) : next l = .error k := by unfold next; rw [h]
theorem next_end {l : List UInt8} {f n : Nat} (h : tagOf l = .ok (f, 4, n)) : next l = .error 104 := by unfold next; rw [h]; rfl
theorem next_err {l : List UInt8} {f k n e : Nat} (h : tagOf l = .ok (f, k, n)) (hk : k ≠ 4) (hw : way 32 k f (l.drop n) = .error e) : next l = .error e := by unfold next; rw [h]; simp [hk, hw]
theorem next_ok {l : List UInt8} {f k n u m : Nat} {b : List UInt8} (h : tagOf l = .ok (f, k, n)) (hk : k ≠ 4) (hw : way 32 k f (l.drop n) = .ok (u, b, m)) : next l = .ok (⟨f, k, u, b⟩, n + m) := by unfold next; rw [h]; simp [hk, hw]

theorem results_rec (tmps : Array Value) (w : World) (g : Nat) (a b c d : Value) (ht : tmps[2]? = some (.pointer (some ⟨g, 0, none⟩))) (hb : Blk w g 29 #[a, b, c, d]) :
    (results Tryd.f11 tmps).run Tryd.prog w = .ok (.tuple #[.agg #[a, b, c, d], tmps.getD 3 undef, tmps.getD 4 undef]) w := by
  have c0 : w.cell? ⟨g, 0, none⟩ = some a := hb.cell 0
  have c1 : w.cell? ⟨g, 1, none⟩ = some b := hb.cell 1
  have c2 : w.cell? ⟨g, 2, none⟩ = some c := hb.cell 2
  have c3 : w.cell? ⟨g, 3, none⟩ = some d := hb.cell 3
  simp [results, Tryd.results11, go_sem, ht, c0, c1, c2, c3]

set_option maxHeartbeats 4000000 in
set_option maxRecDepth 100000 in
theorem next_any (A : Option Addr) (n c : Nat) (l : List UInt8) (w : World) (ea : Nat → Addr) (B : Nat) (he : Env w ea) (hr : Rd w B A n l) (hn : n ≤ 1000000000000) (hnc : n ≤ c) (hB : B ≤ w.heap.size) :
    Calls Tryd.prog 11 #[.slice A n c] w (NextPost ea w (next l)) := by
  have HE := Lib.hid he
  have HR := Lib.hid hr
  have hln := hr.len
  have HLN := Lib.hid hln
  have h8 := he.room
  clear he hr hln
  rcases ht : tagOf l with k | ⟨f, k, m⟩
  · have HT := Lib.hid ht; clear ht
    go_enter Tryd.func11, Tryd.ntmps11
    go_wp2_with fail
    refine (tag_any A n c l _ ea w.heap.size (by exact HE.out.below ((Below.refl _ _).alloc (Nat.le_refl _) _) h8) (by exact (HR.out.more hB).alloc (Nat.le_refl _) _) hn).mono ?_
    rintro e w1 ⟨rfl, m1, hw1⟩
    have HB1 : Hid (Below w.heap.size w w1) := by rw [hw1]; exact Lib.hid (below_drewN ((Below.refl _ _).alloc (Nat.le_refl _) _) m1)
    have hbk : Blk w1 w.heap.size 29 (recCells 0 0 0 (.slice none 0 0)) := by rw [hw1]; exact (Blk.new w _ _).drewN m1
    clear hw1
    rw [HT.out, tagRes]
    have c0 : w1.cell? ⟨w.heap.size, 0, none⟩ = some (.int .i64 0) := hbk.cell 0
    have c1 : w1.cell? ⟨w.heap.size, 1, none⟩ = some (.int .i64 0) := hbk.cell 1
    have c2 : w1.cell? ⟨w.heap.size, 2, none⟩ = some (.int .u64 0) := hbk.cell 2
    have c3 : w1.cell? ⟨w.heap.size, 3, none⟩ = some (.slice none 0 0) := hbk.cell 3
    have z0 := hbk.frozen 0
    have z1 := hbk.frozen 1
    have z2 := hbk.frozen 2
    have z3 := hbk.frozen 3
    have HBK := Lib.hid hbk; clear hbk
    go_wp2
    refine bodyPost_ret (results_rec _ _ w.heap.size _ _ _ _ rfl ((((HBK.out.put 0 _).put 1 _).put 2 _).put 3 _)) rfl ?_
    rw [next_tagErr HT.out]
    exact ⟨rfl, (((HB1.out.setCell (Nat.le_refl _) _).setCell (Nat.le_refl _) _).setCell (Nat.le_refl _) _).setCell (Nat.le_refl _) _⟩
  · have hle := tagOf_le ht
    rw [HLN.out] at hle
    obtain ⟨hf1, hf2, hk5, hm1, hm2, hm3⟩ := hle
    have HT := Lib.hid ht; clear ht
    by_cases hk4 : k = 4
    · have t4 : ((k : Int) == 4) = true := by simp; omega
      have HK4 := Lib.hid hk4; clear hk4
      go_enter Tryd.func11, Tryd.ntmps11
      go_wp2_with fail
      refine (tag_any A n c l _ ea w.heap.size (by exact HE.out.below ((Below.refl _ _).alloc (Nat.le_refl _) _) h8) (by exact (HR.out.more hB).alloc (Nat.le_refl _) _) hn).mono ?_
      rintro e w1 ⟨rfl, m1, hw1⟩
      have HB1 : Hid (Below w.heap.size w w1) := by rw [hw1]; exact Lib.hid (below_drewN ((Below.refl _ _).alloc (Nat.le_refl _) _) m1)
      have hbk : Blk w1 w.heap.size 29 (recCells 0 0 0 (.slice none 0 0)) := by rw [hw1]; exact (Blk.new w _ _).drewN m1
      have h104 := (HE.out.below HB1.out h8).group
      clear hw1
      rw [HT.out, tagRes]
      have c0 : w1.cell? ⟨w.heap.size, 0, none⟩ = some (.int .i64 0) := hbk.cell 0
      have c1 : w1.cell? ⟨w.heap.size, 1, none⟩ = some (.int .i64 0) := hbk.cell 1
      have c2 : w1.cell? ⟨w.heap.size, 2, none⟩ = some (.int .u64 0) := hbk.cell 2
      have c3 : w1.cell? ⟨w.heap.size, 3, none⟩ = some (.slice none 0 0) := hbk.cell 3
      have z0 := hbk.frozen 0
      have z1 := hbk.frozen 1
      have z2 := hbk.frozen 2
      have z3 := hbk.frozen 3
      have HBK := Lib.hid hbk; clear hbk
      go_wp2
      go_region
      go_wp2
      refine bodyPost_ret (results_rec _ _ w.heap.size _ _ _ _ rfl (((((HBK.out.put 0 _).put 1 _).put 2 _).put 3 _).drewN 1)) rfl ?_
      have ht' := HT.out
      rw [HK4.out] at ht'
      rw [next_end ht']
      exact ⟨rfl, below_drewN ((((HB1.out.setCell (Nat.le_refl _) _).setCell (Nat.le_refl _) _).setCell (Nat.le_refl _) _).setCell (Nat.le_refl _) _) 1⟩
    · have t4 : ((k : Int) == 4) = false := by simp; omega
      have hkk : k = 0 ∨ k = 1 ∨ k = 2 ∨ k = 3 ∨ k = 5 := by omega
      have HK4 := Lib.hid hk4; clear hk4
      go_enter Tryd.func11, Tryd.ntmps11
      go_wp2_with fail
      refine (tag_any A n c l _ ea w.heap.size (by exact HE.out.below ((Below.refl _ _).alloc (Nat.le_refl _) _) h8) (by exact (HR.out.more hB).alloc (Nat.le_refl _) _) hn).mono ?_
      rintro e w1 ⟨rfl, m1, hw1⟩
      have HB1 : Hid (Below w.heap.size w w1) := by rw [hw1]; exact Lib.hid (below_drewN ((Below.refl _ _).alloc (Nat.le_refl _) _) m1)
      have HBK : Hid (Blk w1 w.heap.size 29 (recCells 0 0 0 (.slice none 0 0))) := by rw [hw1]; exact Lib.hid ((Blk.new w _ _).drewN m1)
      clear hw1
      rw [HT.out, tagRes]
      have hs1 := HB1.out.size
      have hs1' := HBK.out.lt
      go_wp2_with fail
      have HBK1 := Lib.hid (Blk.new w1 29 (recCells f k 0 (.slice none 0 0)))
      have HBK0 := Lib.hid (HBK.out.alloc (.cells (recCells f k 0 (.slice none 0 0)) 29))
      have HB2 := Lib.hid (HB1.out.alloc hs1 (.cells (recCells f k 0 (.slice none 0 0)) 29))
      have hsz : (w1.alloc (.cells (recCells f k 0 (.slice none 0 0)) 29)).heap.size = w1.heap.size + 1 := by simp
      unfold recCells at HBK1 HBK0 HB2 hsz
      generalize w1.alloc _ = W1 at HBK1 HBK0 HB2 hsz ⊢
      generalize w1.heap.size = g1 at *
      have hsz1 : g1 + 1 ≤ W1.heap.size := by omega
      clear hsz
      obtain ⟨A', hA', hsl⟩ := cut_from (c := c) byteP ((HR.out.more hB).below HB2.out) (m : Int) (k := m) rfl hm2 hnc
      have HX : Hid (DispIn ea W1 A' (n - m) (c - m) (l.drop m) g1 f k) :=
        Lib.hid ⟨HE.out.below HB2.out h8, hA'.more HB2.out.size, by omega, by omega, HBK1.out⟩
      have hsW : w.heap.size ≤ W1.heap.size := HB2.out.size
      clear hA'
      generalize hn2 : n - m = n2 at hsl HX
      generalize hc2' : c - m = c2 at hsl HX
      clear hn2 hc2'
      go_cut [10, 8] (fun mv ev wx => Disp ea (way 32 k f (l.drop m)) W1 g1 f k mv ev wx)
      case first =>
        clear t4 hs1 hs1' hn hnc hB HE HR HLN h8 hf1 hf2 hk5 hm1 hm2 hm3 HT HK4 HB1 HBK HBK1 HBK0 HB2 hsz1 hsW
        rcases hkk with hk | hk | hk | hk | hk
        · have HK := Lib.hid hk; clear hk
          go_region_with (first
            | (go_at_call 29; refine (ways_any _).mono ?_; rintro e w2 ⟨b1, b2, rfl, hb2, hm2, hc1, hc2, hl1, hl2⟩; have hlk := look_ways0 w2 W1.heap.size b1 b2 hm2 k HK.out; have HB3 := Lib.hid (below_of_drew hb2); clear hb2 hm2)
            | (go_at_call 36; refine (disp0 (d := 32) _ HX.out HK.out (by exact HB3.out)).mono ?_; rintro e w3 ⟨mv, ev, rfl, hdd⟩; have HD := Lib.hid hdd; clear hdd))
          go_wp2_with fail
          go_meet
          exact HD.out
        · have HK := Lib.hid hk; clear hk
          go_region_with (first
            | (go_at_call 29; refine (ways_any _).mono ?_; rintro e w2 ⟨b1, b2, rfl, hb2, hm2, hc1, hc2, hl1, hl2⟩; have hlk := look_ways1 w2 W1.heap.size b1 b2 hm2 k HK.out; have HB3 := Lib.hid (below_of_drew hb2); clear hb2 hm2)
            | (go_at_call 35; refine (disp1 (d := 32) _ HX.out HK.out (by exact HB3.out) (by exact hc1)).mono ?_; rintro e w3 ⟨mv, ev, rfl, hdd⟩; have HD := Lib.hid hdd; clear hdd))
          go_wp2_with fail
          go_meet
          exact HD.out
        · have HK := Lib.hid hk; clear hk
          go_region_with (first
            | (go_at_call 29; refine (ways_any _).mono ?_; rintro e w2 ⟨b1, b2, rfl, hb2, hm2, hc1, hc2, hl1, hl2⟩; have hlk := look_ways2 w2 W1.heap.size b1 b2 hm2 k HK.out; have HB3 := Lib.hid (below_of_drew hb2); clear hb2 hm2)
            | (go_at_call 37; refine (disp2 (d := 32) _ HX.out HK.out (by exact HB3.out)).mono ?_; rintro e w3 ⟨mv, ev, rfl, hdd⟩; have HD := Lib.hid hdd; clear hdd))
          go_wp2_with fail
          go_meet
          exact HD.out
        · have HK := Lib.hid hk; clear hk
          go_region_with (first
            | (go_at_call 29; refine (ways_any _).mono ?_; rintro e w2 ⟨b1, b2, rfl, hb2, hm2, hc1, hc2, hl1, hl2⟩; have hlk := look_ways3 w2 W1.heap.size b1 b2 hm2 k HK.out; have HB3 := Lib.hid (below_of_drew hb2); clear hb2 hm2)
            | (go_at_call 38; refine (disp3 (d := 32) (group_any 32 (Nat.le_refl _)) HX.out HK.out (by exact HB3.out)).mono ?_; rintro e w3 ⟨mv, ev, rfl, hdd⟩; have HD := Lib.hid hdd; clear hdd))
          go_wp2_with fail
          go_meet
          exact HD.out
        · have HK := Lib.hid hk; clear hk
          go_region_with (first
            | (go_at_call 29; refine (ways_any _).mono ?_; rintro e w2 ⟨b1, b2, rfl, hb2, hm2, hc1, hc2, hl1, hl2⟩; have hlk := look_ways5 w2 W1.heap.size b1 b2 hm2 k HK.out; have HB3 := Lib.hid (below_of_drew hb2); clear hb2 hm2)
            | (go_at_call 35; refine (disp5 (d := 32) _ HX.out HK.out (by exact HB3.out) (by exact hc2)).mono ?_; rintro e w3 ⟨mv, ev, rfl, hdd⟩; have HD := Lib.hid hdd; clear hdd))
          go_wp2_with fail
          go_meet
          exact HD.out
      case rest =>
        clear hsl hkk
        obtain ⟨hme, hg3, hh3⟩ := hcut
        have HBX : Hid (Below w.heap.size w wc) := Lib.hid (HB2.out.grown hg3 hsW (by simp; omega))
        have hbk : Blk wc w.heap.size 29 (recCells 0 0 0 (.slice none 0 0)) := HBK0.out.grown hg3 (by simp; omega)
        have c0 : wc.cell? ⟨w.heap.size, 0, none⟩ = some (.int .i64 0) := hbk.cell 0
        have c1 : wc.cell? ⟨w.heap.size, 1, none⟩ = some (.int .i64 0) := hbk.cell 1
        have c2 : wc.cell? ⟨w.heap.size, 2, none⟩ = some (.int .u64 0) := hbk.cell 2
        have c3 : wc.cell? ⟨w.heap.size, 3, none⟩ = some (.slice none 0 0) := hbk.cell 3
        have z0 := hbk.frozen 0
        have z1 := hbk.frozen 1
        have z2 := hbk.frozen 2
        have z3 := hbk.frozen 3
        have HBK2 := Lib.hid hbk; clear hbk
        clear hg3
        rcases hw : way 32 k f (l.drop m) with er | ⟨u, b, m'⟩ <;> rw [hw] at hme hh3
        · have HW := Lib.hid hw; clear hw hh3
          injection hme with hme
          simp only [Array.mk.injEq, List.cons.injEq, and_true] at hme
          obtain ⟨rfl, rfl⟩ := hme
          go_wp2
          refine bodyPost_ret (results_rec _ _ w.heap.size _ _ _ _ rfl ((((HBK2.out.put 0 _).put 1 _).put 2 _).put 3 _)) rfl ?_
          rw [next_err HT.out HK4.out HW.out]
          exact ⟨rfl, (((HBX.out.setCell (Nat.le_refl _) _).setCell (Nat.le_refl _) _).setCell (Nat.le_refl _) _).setCell (Nat.le_refl _) _⟩
        · have HW := Lib.hid hw
          have hle := way_le 32 _ _ _ _ _ _ hw
          clear hw
          rw [List.length_drop, HLN.out] at hle
          injection hme with hme
          simp only [Array.mk.injEq, List.cons.injEq, and_true] at hme
          obtain ⟨rfl, rfl⟩ := hme
          obtain ⟨v, hbv, hov⟩ := hh3
          have d0 : wc.cell? ⟨g1, 0, none⟩ = some (.int .i64 (f : Int)) := hbv.cell 0
          have d1 : wc.cell? ⟨g1, 1, none⟩ = some (.int .i64 (k : Int)) := hbv.cell 1
          have d2 : wc.cell? ⟨g1, 2, none⟩ = some (.int .u64 (u : Int)) := hbv.cell 2
          have d3 : wc.cell? ⟨g1, 3, none⟩ = some v := hbv.cell 3
          obtain ⟨Av, cv, hv, _, _, _⟩ := hov.form
          have HOV := Lib.hid hov
          have HBV := Lib.hid hbv
          subst hv
          clear hov hbv
          go_wp2
          refine bodyPost_ret (results_rec _ _ w.heap.size _ _ _ _ rfl ((((HBK2.out.put 0 _).put 1 _).put 2 _).put 3 _)) rfl ?_
          rw [next_ok HT.out HK4.out HW.out]
          refine ⟨_, by rw [show ((m + m' : Nat) : Int) = (m : Int) + (m' : Int) by omega]; rfl, ?_, (((HBX.out.setCell (Nat.le_refl _) _).setCell (Nat.le_refl _) _).setCell (Nat.le_refl _) _).setCell (Nat.le_refl _) _⟩
          refine (HOV.out.base hsW).grown (grown_setCell (grown_setCell (grown_setCell (grown_setCell (World.grownBy.refl _ (some w.heap.size)) _ _) _ _) _ _) _ _) ?_
          rcases hob : (Value.slice Av b.length cv).ownBlock with _ | gb
          · exact .inl rfl
          · have := (HOV.out.lt hob).2
            exact .inr (by simp; omega)

theorem next_le {l : List UInt8} {r : Rec} {n : Nat} (h : next l = .ok (r, n)) : 1 ≤ n ∧ n ≤ l.length := by
  unfold next at h
  rcases ht : tagOf l with e | ⟨f, k, m⟩ <;> rw [ht] at h
  · cases h
  · have hle := tagOf_le ht
    simp only at h
    split at h
    · cases h
    · rcases hw : way 32 k f (l.drop m) with e | ⟨u, b, m'⟩ <;> rw [hw] at h
      · cases h
      · have := way_le 32 _ _ _ _ _ _ hw
        rw [List.length_drop] at this
        simp only [Except.ok.injEq, Prod.mk.injEq] at h
        omega

end Go.Proofs.YtnahkhiomnkbcaaDoor
