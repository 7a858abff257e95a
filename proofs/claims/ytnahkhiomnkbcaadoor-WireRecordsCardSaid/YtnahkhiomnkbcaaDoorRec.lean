/-
  Contracts: wire.Records and its iterator.
-/
import Derived.Test.YtnahkhiomnkbcaaDoorNxt
import Derived.Test.YtnahkhiomnkbcaaDoorRng
namespace Go.Proofs.YtnahkhiomnkbcaaDoor
open Go.RowKit Go.Own Go.Own.Wire Go.Own.Rng Go.Shelf
attribute [local go_sem] Oper.semAt_some

set_option maxHeartbeats 400000 in
set_option maxRecDepth 100000 in
theorem records_any (A : Option Addr) (n c : Nat) (l : List UInt8) (w : World) (B : Nat) (hr : Rd w B A n l) (hB : B ≤ w.heap.size) (hn : n ≤ 1000000000000) :
    Calls Tryd.prog 12 #[.slice A n c] w fun e w' => e = .returned (.func (.func 31) #[] #[.pointer (some ⟨w.heap.size, 0, none⟩)]) ∧
      Blk w' w.heap.size 23 #[.slice (some ⟨w.heap.size + 1, 0, none⟩) n n] ∧ Ow w' (w.heap.size + 1) 5 (.slice (some ⟨w.heap.size + 1, 0, none⟩) n n) n l ∧ Below w.heap.size w w' := by
  have HR := Lib.hid hr; clear hr
  go_enter Tryd.func12, Tryd.ntmps12
  go_wp2_with fail
  have HB0 := Lib.hid ((Below.refl w.heap.size w).alloc (Nat.le_refl _) (.cells #[.slice A n c] 23))
  have HK0 := Lib.hid (Blk.new w 23 #[.slice A n c])
  have hsz : (w.alloc (.cells #[.slice A n c] 23)).heap.size = w.heap.size + 1 := by simp
  generalize w.alloc _ = W0 at HB0 HK0 hsz ⊢
  have HSZ := Lib.hid hsz
  clear hsz
  refine (copied_any A n c 0 l _ B (by exact HR.out.below (HB0.out.mono hB)) (by rw [HSZ.out]; omega) hn (by omega)).mono ?_
  rw [Nat.add_zero, HSZ.out]
  rintro e W1 ⟨rfl, ho, hb⟩
  have hk1 := HK0.out.below hb (by omega)
  have HB1 := Lib.hid (HB0.out.trans (hb.mono (by omega)))
  have HO := Lib.hid ho
  have HK1 := Lib.hid hk1
  have c0 : W1.cell? ⟨w.heap.size, 0, none⟩ = some (.slice A n c) := hk1.cell 0
  have z0 := hk1.frozen 0
  clear ho hb hk1 HB0 HK0
  go_wp2
  go_ret
  refine ⟨rfl, HK1.out.put 0 _, ?_, HB1.out.setCell (Nat.le_refl _) _⟩
  exact HO.out.grown (row := some w.heap.size) (grown_setCell (grown_of_below (Below.refl _ _) _) 0 _) (Or.inr (by simp [Value.ownBlock]))

/-- What is told of a round. -/
def Told (J : Nat → World → Prop) (Jx : World → Prop) (p k : Nat) (e : Ending) (W : World) : Prop :=
  (e = .returned (.bool true) ∧ J (p + k) W) ∨ (e = .returned (.bool false) ∧ Jx W)
/-- How the iterator ends. -/
def Ended (l : List UInt8) (n : Nat) (J : Nat → World → Prop) (Jx : World → Prop) (e : Ending) (W : World) : Prop :=
  (∃ v, e = .returned v) ∧ ((∃ p, p ≤ n ∧ J p W ∧ (p = n ∨ ∃ k, next (l.drop p) = .error k)) ∨ Jx W)

set_option maxHeartbeats 1000000 in
set_option maxRecDepth 100000 in
theorem recs_in (m lp Bx n c B : Nat) (A : Option Addr) (l : List UInt8) (ea : Nat → Addr) (J : Nat → World → Prop) (Jx : World → Prop) (hn : n ≤ 1000000000000) (hnc : n ≤ c)
    (hJ : ∀ p W, J p W → Env W ea ∧ W.cell? ⟨Bx, 0, none⟩ = some (.slice A n c) ∧ Rd W B A n l ∧ B ≤ W.heap.size)
    (hM : ∀ p W W', J p W → Below W.heap.size W W' → J p W')
    (hY : ∀ p r k v W W', J p W → p < n → next (l.drop p) = .ok (r, k) → Below W.heap.size W W' → Ow W' W.heap.size 5 v r.b.length r.b →
      YieldAt Fence.wide (m - 1) Tryd.prog lp #[.int .i64 (p : Int), .agg (recCells r.field r.kind r.u v)] W' (Told J Jx p k))
    (W : World) (h0 : J 0 W) :
    CallsIn Fence.wide m Tryd.prog 31 #[.func (.yield lp) #[] #[], .pointer (some ⟨Bx, 0, none⟩)] W (Ended l n J Jx) := by
  have HJ := Lib.hid hJ
  have HM := Lib.hid hM
  have HY := Lib.hid hY
  clear hJ hM hY
  refine callsIn_of_wp Tryd.func31 rfl trivial ?_ rfl
  simp only [Tryd.ntmps31, List.size_toArray, List.length_cons, List.length_nil, Nat.reduceAdd, Nat.reduceSub, Array.replicate_succ, Array.replicate_zero, List.push_toArray, List.append_toArray, List.nil_append, List.cons_append]
  gi_wp2
  gi_loopw [3] (fun at_ wr => ∃ p : Nat, p ≤ n ∧ at_ = .int .i64 (p : Int) ∧ J p wr) (fun at_ _ => n - (intOf at_).toNat)
  case atStart => exact ⟨0, Nat.zero_le _, rfl, h0⟩
  case round =>
    obtain ⟨p, hp, rfl, hj⟩ := hrel
    obtain ⟨he, hc, hr, hB⟩ := HJ.out p wr hj
    have hj' := Lib.hid hj
    clear hj
    by_cases hlt : p < n
    · have HLN := Lib.hid hr.len
      obtain ⟨A', hA', hsl⟩ := cut_from (c := c) byteP hr (p : Int) (k := p) rfl hp hnc
      have HA := Lib.hid hA'
      have HE := Lib.hid he
      clear hr he hA'
      rcases hx : next (l.drop p) with k | ⟨r, k⟩
      · have HX := Lib.hid hx
        clear hx
        gi_wp2_with fail
        refine ⟨trivial, fun h => (by cases h), ?_⟩
        refine (callsIn_wide.2 (next_any A' (n - p) (c - p) (l.drop p) _ ea B HE.out HA.out (by omega) (by omega) hB)).mono ?_
        rw [HX.out]
        rintro e W1 ⟨rfl, hb⟩
        have HJ1 := Lib.hid (HM.out p _ _ hj'.out (hb.alloc hb.size (.cells (recCells 0 0 0 (.slice none 0 0)) 29)))
        clear hb hsl hc hB
        unfold recCells
        gi_wp2
        refine ⟨fun _ h => (by cases h), ?_⟩
        gi_wp2
        refine bodyPost_ret (results_none rfl _ _ _) rfl ?_
        exact ⟨⟨_, rfl⟩, .inl ⟨p, hp, HJ1.out, .inr ⟨k, HX.out⟩⟩⟩
      · have hk := next_le hx
        have HX := Lib.hid hx
        clear hx
        gi_wp2_with fail
        refine ⟨trivial, fun h => (by cases h), ?_⟩
        refine (callsIn_wide.2 (next_any A' (n - p) (c - p) (l.drop p) _ ea B HE.out HA.out (by omega) (by omega) hB)).mono ?_
        rw [HX.out]
        rintro e W1 ⟨v, rfl, ho, hb⟩
        obtain ⟨Av, cv, rfl, _, _, _⟩ := ho.form
        have hb2 : Below wr.heap.size wr (W1.alloc (.cells (recCells r.field r.kind r.u (.slice Av r.b.length cv)) 29)) := hb.alloc hb.size _
        obtain ⟨fn, tmps, assign, body, hy, hR⟩ := HY.out p r k _ wr _ hj'.out hlt HX.out hb2 (ho.alloc _)
        unfold recCells at hy hR ⊢
        clear hb hb2 hsl hc hB
        gi_wp2_with fail
        refine ⟨fun h => (by cases h), ?_⟩
        refine hR.mono ?_
        have hkn : p + k ≤ n := by rw [List.length_drop, HLN.out] at hk; omega
        have hk1 : 1 ≤ k := hk.1
        clear hk hy hR
        rintro e W3 (⟨rfl, hJ3⟩ | ⟨rfl, hJx⟩)
        · have H3 := Lib.hid hJ3
          clear hJ3
          gi_wp2
          go_roundw
          case rel => exact ⟨p + k, hkn, by go_num, H3.out⟩
          case measure => simp [intOf]; omega
        · have H3 := Lib.hid hJx
          clear hJx
          gi_wp2
          refine bodyPost_ret (results_none rfl _ _ _) rfl ?_
          exact ⟨⟨_, rfl⟩, .inr H3.out⟩
    · obtain rfl : p = n := by omega
      gi_wp2
      go_end0
      exact ⟨⟨_, rfl⟩, .inl ⟨p, hp, hj'.out, .inl rfl⟩⟩
end Go.Proofs.YtnahkhiomnkbcaaDoor
