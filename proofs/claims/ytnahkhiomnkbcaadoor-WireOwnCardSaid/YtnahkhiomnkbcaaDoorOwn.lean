/-
  WireOwn: its walk.
-/
import Derived.Test.YtnahkhiomnkbcaaDoorRec
import Derived.Test.YtnahkhiomnkbcaaDoorRefs
import Derived.Test.YtnahkhiomnkbcaaDoorChk
import Derived.Deep.QuietTactic
import Derived.BigQuiet
import Derived.OpenShut
import Derived.Deep.RegionHeld3
namespace Go.Proofs.YtnahkhiomnkbcaaDoor
open Go.RowKit Go.Own Go.Own.Wire Go.Own.Rng Go.Shelf
attribute [local go_sem] Oper.semAt_some

/-- Bytes that may be written. -/
def Wr (W : World) (g n : Nat) : Prop := ∃ cur, Blk W g 5 cur ∧ ∀ j < n, ∃ x : Int, cur[j]? = some (.int .u8 x)
theorem Wr.at_ {W : World} {g n : Nat} (h : Wr W g n) (j : Nat) (hj : j < n) : (∃ x : Int, W.cell? ⟨g, j, none⟩ = some (.int .u8 x)) ∧ W.frozen? ⟨g, j, none⟩ = false := by
  obtain ⟨cur, hb, hc⟩ := h
  obtain ⟨x, hx⟩ := hc j hj
  exact ⟨⟨x, (hb.cell j).trans hx⟩, hb.frozen j⟩
theorem Wr.lt {W : World} {g n : Nat} (h : Wr W g n) : g < W.heap.size := by obtain ⟨cur, hb, _⟩ := h; exact hb.lt
theorem Wr.put {W : World} {g n : Nat} (h : Wr W g n) (k : Nat) (y : Int) : Wr (W.setCell ⟨g, k, none⟩ (.int .u8 y)) g n := by
  obtain ⟨cur, hb, hc⟩ := h
  refine ⟨_, hb.put k _, fun j hj => ?_⟩
  obtain ⟨x, hx⟩ := hc j hj
  by_cases e : k = j
  · subst e
    have hk : k < cur.size := (Array.getElem?_eq_some_iff.1 hx).1
    exact ⟨y, by simp [hk]⟩
  · exact ⟨x, by rw [Array.getElem?_setIfInBounds, if_neg e]; exact hx⟩
theorem Wr.grown {W W' : World} {g n : Nat} {row : Option Nat} (h : Wr W g n) (hb : W.grownBy W' row) (hg : some g ≠ row) : Wr W' g n := by
  obtain ⟨cur, hk, hc⟩ := h
  exact ⟨cur, hk.grown hb hg, hc⟩
theorem Wr.of_ow {W : World} {base n : Nat} {v : Value} {l : List UInt8} (h : Ow W base 5 v n l) : (v = .slice none 0 0 ∧ n = 0) ∨ ∃ g cap, v = .slice (some ⟨g, 0, none⟩) n cap ∧ base ≤ g ∧ Wr W g n := by
  obtain ⟨hl, h⟩ := h
  rcases h with h | ⟨g, cap, cur, hv, hb, hh, h1, h2, h3, h4⟩
  · exact .inl h
  · refine .inr ⟨g, cap, hv, hb, cur, hh, fun j hj => ?_⟩
    have hl2 : (List.map bv l).length = n := by simpa using hl
    have hj2 : j < (List.map bv l).length := by omega
    have e : cur.toList[j]? = (List.map bv l)[j]? := by rw [← h4, List.getElem?_take, if_pos (by omega)]
    rw [← Array.getElem?_toList, e, List.getElem?_eq_getElem hj2, List.getElem_map]
    exact ⟨_, rfl⟩
theorem Wr.of_new {W : World} {base g n c : Nat} {l : List UInt8} (h : Ow W base 5 (.slice (some ⟨g, 0, none⟩) n c) n l) : Wr W g n := by
  rcases Wr.of_ow h with ⟨h, _⟩ | ⟨g', cap, hv, _, hw⟩
  · cases h
  · injection hv with hv _ _
    injection hv with hv
    injection hv with hv _ _
    subst hv
    exact hw

/-- What stays behind the two loops. -/
structure Late (w W2 : World) (D1 D2 : Nat) (W : World) : Prop where
  b1 : Below w.heap.size w W
  b2 : Below W2.heap.size W2 W
  m1 : W.heap[D1]? = some (.deferred (some []))
  m2 : W.heap[D2]? = some (.deferred (some []))
  l0 : w.heap.size ≤ D1
  l1 : D1 < D2
  l2 : D2 < W.heap.size
theorem Late.step {w W2 W W' : World} {D1 D2 : Nat} (h : Late w W2 D1 D2 W) (hb : Below W.heap.size W W') : Late w W2 D1 D2 W' :=
  ⟨h.b1.trans (hb.mono h.b1.size), h.b2.trans (hb.mono h.b2.size), (hb.block _ (by have := h.l1; have := h.l2; omega)).trans h.m1, (hb.block _ h.l2).trans h.m2, h.l0, h.l1, Nat.lt_of_lt_of_le h.l2 hb.size⟩

theorem Late.left {w W2 W : World} {D1 D2 : Nat} (h : Late w W2 D1 D2 W) : (W.putObj D2 (.deferred none)).heap[D1]? = some (.deferred (some [])) :=
  (World.putObj_heap_other (by have := h.l1; omega)).trans h.m1
theorem Late.end_ {w W2 W : World} {D1 D2 : Nat} (h : Late w W2 D1 D2 W) : Below w.heap.size w ((W.putObj D2 (.deferred none)).putObj D1 (.deferred none)) :=
  (h.b1.trans (belowK_b (w := w) (Nat.le_refl _) W D2 _ _ (by have := h.l0; have := h.l1; omega) h.m2 rfl rfl)).trans (belowK_b (w := w) (Nat.le_refl _) _ D1 _ _ h.l0 h.left rfl rfl)

set_option maxHeartbeats 4000000 in
set_option maxRecDepth 100000 in
theorem wireOwn_any (A : Option Addr) (n c u : Nat) (l : List UInt8) (w : World) (ea : Nat → Addr) (he : Env w ea) (hr : Rd w w.heap.size A n l) (hnc : n ≤ c) (hu : u < 18446744073709551616) :
    Calls Tryd.prog 5 #[.slice A n c, .int .u64 (u : Int)] w fun e w' => e = .returned (.bool true) ∧ Below w.heap.size w w' := by
  have HE := Lib.hid he
  have HR := Lib.hid hr
  have h8 := he.room
  clear he hr
  have N : Nat := 9
  refine (callsIn_wide (n := N)).1 ?_
  refine callsIn_of_wp_marks Tryd.func5 rfl trivial ?_ rfl
  simp only [Tryd.ntmps5, List.size_toArray, List.length_cons, List.length_nil, Nat.reduceAdd, Nat.reduceSub, Array.replicate_succ, Array.replicate_zero, List.push_toArray, List.append_toArray, List.nil_append, List.cons_append]
  gi_wp2_with fail
  refine ⟨trivial, fun h => (by cases h), ?_⟩
  refine (callsIn_wide.2 (first_any w ea HE.out)).mono ?_
  rintro e W1 ⟨rfl, hb⟩
  have HB1 := Lib.hid hb
  have hs1 := hb.size
  clear hb
  by_cases hlt : 16384 < n
  · gi_wp2
    exact ⟨_, results_tmp rfl _ _ _, rfl, HB1.out⟩
  have hdn : decide (16384 < (n : Int)) = false := by simp; omega
  have hn2 : n ≤ 16384 := by omega
  clear hlt
  gi_wp2_with fail
  refine ⟨trivial, fun h => (by cases h), ?_⟩
  refine (callsIn_wide.2 (bytes_any A n c l _ w.heap.size (by exact HR.out.below HB1.out) hs1 (by omega))).mono ?_
  rintro e W2 ⟨rfl, ho, hb⟩
  have HB2 := Lib.hid (HB1.out.trans (hb.mono hs1))
  have HK2 := Lib.hid ho.rd
  have hs2 := HB2.out.size
  clear hb ho HB1
  generalize W1.heap.size = gk at *
  gi_wp2
  refine wpIn_loop_rounds 3 ?_
  have S2 := Lib.hid (show Below w.heap.size w W2 ∧ Below W2.heap.size W2 W2 from ⟨HB2.out, Below.refl _ _⟩)
  rw [roundsIn_succ]
  gi_wp2_with fail
  refine ⟨trivial, fun h => (by cases h), ?_⟩
  refine (callsIn_wide.2 (varint_any A n c u l _ w.heap.size (by exact HR.out.below S2.out.1) (by have := S2.out.1.size; omega) (by omega) hu)).mono ?_
  rintro e V1 ⟨rfl, ho, hb⟩
  have hwr := Wr.of_new ho
  have hvl := venc_len u
  have hlt := hwr.lt
  have hq : n + (venc u).length ≤ 16394 := by omega
  generalize n + (venc u).length = q1 at hwr hq ⊢
  have HW := Lib.hid hwr
  have HBV := Lib.hid hb
  clear ho hb hwr hvl
  obtain ⟨g1, hg⟩ : ∃ g, W2.heap.size = g := ⟨_, rfl⟩
  rw [hg] at hlt HW HBV ⊢
  gi_wp2
  gi_loopw [9] (fun ix wr => ∃ k : Nat, k ≤ q1 ∧ ix = .int .i64 (k : Int) ∧ Wr wr g1 q1 ∧ Below g1 W2 wr) (fun ix _ => q1 - (intOf ix).toNat)
  case atStart => exact ⟨0, Nat.zero_le _, rfl, HW.out, HBV.out⟩
  case round =>
    obtain ⟨k, hk, rfl, hwk, hbk⟩ := hrel
    have HWK := Lib.hid hwk
    have HBK := Lib.hid hbk
    by_cases hkq : k < q1
    · obtain ⟨⟨xk, hxk⟩, hfk⟩ := hwk.at_ k hkq
      clear hwk hbk
      gi_wp2
      go_roundw
      case rel => exact ⟨k + 1, by omega, by go_num, HWK.out.put k _, HBK.out.setCell (Nat.le_refl _) _⟩
      case measure => simp [intOf]; omega
    · clear hwk hbk
      gi_wp2_with fail
      have SY := Lib.hid (show Below w.heap.size w wr ∧ Below W2.heap.size W2 wr from ⟨S2.out.1.trans (HBK.out.mono (by have := S2.out.1.size; omega)), S2.out.2.trans (HBK.out.mono (by have := S2.out.2.size; omega))⟩)
      refine ⟨trivial, fun h => (by cases h), ?_⟩
      refine (callsIn_wide.2 (records_any A n c l _ w.heap.size (by exact HR.out.below SY.out.1) (by exact SY.out.1.size) (by omega))).mono ?_
      rintro e Z ⟨rfl, hbx, ho, hb⟩
      have SZ := Lib.hid (show Below w.heap.size w Z ∧ Below W2.heap.size W2 Z from ⟨SY.out.1.trans (hb.mono SY.out.1.size), SY.out.2.trans (hb.mono SY.out.2.size)⟩)
      have HBX := Lib.hid hbx
      have HRZ := Lib.hid ho.rd
      have hbz := hbx.lt
      have hsz1 := SZ.out.1.size
      have hsz2 := SZ.out.2.size
      generalize wr.heap.size = gb at *
      clear ho hb hbx SY HWK HBK HW HBV
      gi_wp2
      refine range_rec (gf := 31) (lb := #[.pointer (some ⟨gb, 0, none⟩)]) rfl (enters_of Tryd.func31 (by kernel_rfl) rfl) (fun fn C hC => ?_)
      have HC := Lib.hid hC
      clear hC
      refine (recs_in (N - 1) (Z.heap.size + 1) gb n n Z.heap.size (some ⟨gb + 1, 0, none⟩) l ea (fun _ W => InLoop Z C .ready none W) (fun _ => False) (by omega) (Nat.le_refl _) ?_ ?_ ?_ _ (InLoop.start Z C)).mono ?_
      · intro p W hj
        exact ⟨HE.out.below (SZ.out.1.trans (hj.below.mono hsz1)) h8, (hj.below.cell (p := ⟨gb, 0, none⟩) hbz).trans (HBX.out.cell 0), HRZ.out.below hj.below, hj.below.size⟩
      · intro p W W' hj hb
        exact hj.step hb hj.size
      · intro p r k v W W' hj hp hx hb ho
        have hj' := hj.step hb hj.size
        have hsW : Z.heap.size + 2 ≤ W.heap.size := hj.size
        have hsW' : W.heap.size ≤ W'.heap.size := hb.size
        refine yield_rec HC.out hj'.entry rfl ?_
        have HJ := Lib.hid hj'
        clear hj hj' hb
        unfold recCells
        rcases Wr.of_ow ho with ⟨rfl, hz⟩ | ⟨gv, cv, rfl, hgv, hwv⟩
        · clear ho hz
          gi_wp2
          have hj2 := HJ.out.step ((Below.refl W'.heap.size W').alloc (Nat.le_refl _) (.cells #[.int .i64 (r.field : Int), .int .i64 (r.kind : Int), .int .u64 (r.u : Int), .slice none 0 0] 29)) (by omega)
          refine ⟨hj2.entry, ?_⟩
          have hj3 := Lib.hid (hj2.put .busy none)
          have hbk : Blk ((W'.alloc (.cells #[.int .i64 (r.field : Int), .int .i64 (r.kind : Int), .int .u64 (r.u : Int), .slice none 0 0] 29)).putObj (Z.heap.size + 1) (.loop (C .busy none))) W'.heap.size 29 #[.int .i64 (r.field : Int), .int .i64 (r.kind : Int), .int .u64 (r.u : Int), .slice none 0 0] := (World.putObj_heap_other (by omega)).trans (Blk.new W' 29 _)
          clear hj2 HJ
          generalize (W'.alloc _).putObj _ _ = U at hj3 hbk ⊢
          have c3 : U.cell? ⟨W'.heap.size, 3, none⟩ = some (.slice none 0 0) := hbk.cell 3
          clear hbk
          gi_wp2
          refine wpIn_loop_rounds 1 ?_
          rw [roundsIn_succ]
          gi_wp2
          exact ⟨hj3.out.entry, .inl ⟨rfl, hj3.out.put .ready none⟩⟩
        · have hgv2 := hwv.lt
          have hgn : gv ≠ W'.heap.size := by omega
          have HWV := Lib.hid hwv
          obtain ⟨_, _, _, hm1, hm2, _⟩ := ho.form
          have hmb : r.b.length ≤ 9223372036854775807 := by unfold maxLen at hm2; omega
          clear ho hwv hm1 hm2
          obtain ⟨m, hm⟩ : ∃ m, r.b.length = m := ⟨_, rfl⟩
          rw [hm] at HWV hmb ⊢
          clear hm
          gi_wp2
          have hj2 := HJ.out.step ((Below.refl W'.heap.size W').alloc (Nat.le_refl _) (.cells #[.int .i64 (r.field : Int), .int .i64 (r.kind : Int), .int .u64 (r.u : Int), .slice (some ⟨gv, 0, none⟩) m cv] 29)) (by omega)
          refine ⟨hj2.entry, ?_⟩
          have hj3 := Lib.hid (hj2.put .busy none)
          have hbk : Blk ((W'.alloc (.cells #[.int .i64 (r.field : Int), .int .i64 (r.kind : Int), .int .u64 (r.u : Int), .slice (some ⟨gv, 0, none⟩) m cv] 29)).putObj (Z.heap.size + 1) (.loop (C .busy none))) W'.heap.size 29 #[.int .i64 (r.field : Int), .int .i64 (r.kind : Int), .int .u64 (r.u : Int), .slice (some ⟨gv, 0, none⟩) m cv] := (World.putObj_heap_other (by omega)).trans (Blk.new W' 29 _)
          have hw3 := (HWV.out.grown (grown_of_below ((Below.refl W'.heap.size W').alloc (Nat.le_refl _) (.cells #[.int .i64 (r.field : Int), .int .i64 (r.kind : Int), .int .u64 (r.u : Int), .slice (some ⟨gv, 0, none⟩) m cv] 29)) none) (by simp)).grown (grownBy_putObj' _ (Z.heap.size + 1) (.loop (C .busy none))) (by simp; omega)
          have HBK3 := Lib.hid hbk
          have HW3 := Lib.hid hw3
          clear hj2 HJ hbk hw3 HWV
          generalize (W'.alloc _).putObj _ _ = U at hj3 HBK3 HW3 ⊢
          generalize W'.heap.size = gr at *
          gi_wp2
          gi_loopw [12] (fun ix wx => ∃ i : Nat, i ≤ m ∧ ix = .int .i64 (i : Int) ∧ InLoop Z C .busy none wx ∧ Blk wx gr 29 #[.int .i64 (r.field : Int), .int .i64 (r.kind : Int), .int .u64 (r.u : Int), .slice (some ⟨gv, 0, none⟩) m cv] ∧ Wr wx gv m) (fun ix _ => m - (intOf ix).toNat)
          case atStart => exact ⟨0, Nat.zero_le _, rfl, hj3.out, HBK3.out, HW3.out⟩
          case round =>
            obtain ⟨i, hi, rfl, hji, hbi, hwi⟩ := hrel
            have c3 : wr.cell? ⟨gr, 3, none⟩ = some (.slice (some ⟨gv, 0, none⟩) m cv) := hbi.cell 3
            have HJI := Lib.hid hji
            have HBI := Lib.hid hbi
            have HWI := Lib.hid hwi
            by_cases him : i < m
            · obtain ⟨⟨xi, hxi⟩, hfi⟩ := hwi.at_ i him
              clear hji hbi hwi
              gi_wp2
              go_roundw
              case rel => exact ⟨i + 1, by omega, by go_num, HJI.out.step ((Below.refl gv _).setCell (Nat.le_refl _) _) (by omega), HBI.out.far (by simp; omega) _, HWI.out.put i _⟩
              case measure => simp [intOf]; omega
            · clear hji hbi hwi
              gi_wp2
              exact ⟨HJI.out.entry, .inl ⟨rfl, HJI.out.put .ready none⟩⟩
      · rintro e W ⟨⟨v, rfl⟩, ⟨p, _, hj, _⟩ | hF⟩
        case inr => exact hF.elim
        refine ⟨⟨v, rfl⟩, .ready, none, by decide, hj.entry, ?_⟩
        have hj9 := hj.put .exhausted none
        have S1E := Lib.hid (show Below w.heap.size w (W.putObj (Z.heap.size + 1) (.loop (C .exhausted none))) ∧ Below W2.heap.size W2 (W.putObj (Z.heap.size + 1) (.loop (C .exhausted none))) from ⟨SZ.out.1.trans (hj9.below.mono hsz1), SZ.out.2.trans (hj9.below.mono hsz2)⟩)
        have mark1 := hj9.mark
        have msz1 : Z.heap.size < (W.putObj (Z.heap.size + 1) (.loop (C .exhausted none))).heap.size := by have := hj9.size; omega
        have MW1 := Lib.hid mark1
        clear hj hj9 mark1
        generalize W.putObj _ _ = X1 at S1E MW1 msz1 ⊢
        generalize Z.heap.size = D1 at *
        simp only [Behind]
        gi_wp2
        rw [roundsIn_succ]
        gi_wp2_with fail
        refine ⟨trivial, fun h => (by cases h), ?_⟩
        refine (callsIn_wide.2 (varint_any A n c u l _ w.heap.size (by exact HR.out.below S1E.out.1) (by have := S1E.out.1.size; omega) (by omega) hu)).mono ?_
        rintro e V2 ⟨rfl, ho, hb⟩
        have hwr := Wr.of_new ho
        have hvl := venc_len u
        have hlt := hwr.lt
        have hq : n + (venc u).length ≤ 16394 := by omega
        generalize n + (venc u).length = q2 at hwr hq ⊢
        have HW := Lib.hid hwr
        have HBV := Lib.hid hb
        clear ho hb hwr hvl
        obtain ⟨g2, hg⟩ : ∃ g, X1.heap.size = g := ⟨_, rfl⟩
        rw [hg] at hlt HW HBV ⊢
        gi_wp2
        gi_loopw [9] (fun ix wr => ∃ k : Nat, k ≤ q2 ∧ ix = .int .i64 (k : Int) ∧ Wr wr g2 q2 ∧ Below g2 X1 wr) (fun ix _ => q2 - (intOf ix).toNat)
        case atStart => exact ⟨0, Nat.zero_le _, rfl, HW.out, HBV.out⟩
        case round =>
          obtain ⟨k, hk, rfl, hwk, hbk⟩ := hrel
          have HWK := Lib.hid hwk
          have HBK := Lib.hid hbk
          by_cases hkq : k < q2
          · obtain ⟨⟨xk, hxk⟩, hfk⟩ := hwk.at_ k hkq
            clear hwk hbk
            gi_wp2
            go_roundw
            case rel => exact ⟨k + 1, by omega, by go_num, HWK.out.put k _, HBK.out.setCell (Nat.le_refl _) _⟩
            case measure => simp [intOf]; omega
          · clear hwk hbk
            gi_wp2_with fail
            have SY := Lib.hid (show Below w.heap.size w wr ∧ Below W2.heap.size W2 wr from ⟨S1E.out.1.trans (HBK.out.mono (by have := S1E.out.1.size; omega)), S1E.out.2.trans (HBK.out.mono (by have := S1E.out.2.size; omega))⟩)
            have MY := Lib.hid ((HBK.out.block D1 (by omega)).trans MW1.out)
            have hD1y : D1 < wr.heap.size := by have := HBK.out.size; omega
            refine ⟨trivial, fun h => (by cases h), ?_⟩
            refine (callsIn_wide.2 (records_any A n c l _ w.heap.size (by exact HR.out.below SY.out.1) (by exact SY.out.1.size) (by omega))).mono ?_
            rintro e Z ⟨rfl, hbx, ho, hb⟩
            have SZ := Lib.hid (show Below w.heap.size w Z ∧ Below W2.heap.size W2 Z from ⟨SY.out.1.trans (hb.mono SY.out.1.size), SY.out.2.trans (hb.mono SY.out.2.size)⟩)
            have MZ := Lib.hid ((hb.block D1 hD1y).trans MY.out)
            have hD1z : D1 < Z.heap.size := by have := hb.size; omega
            clear MY hD1y
            have HBX := Lib.hid hbx
            have HRZ := Lib.hid ho.rd
            have hbz := hbx.lt
            have hsz1 := SZ.out.1.size
            have hsz2 := SZ.out.2.size
            generalize wr.heap.size = gb at *
            clear ho hb hbx SY HWK HBK HW HBV
            gi_wp2
            refine range_rec (gf := 31) (lb := #[.pointer (some ⟨gb, 0, none⟩)]) rfl (enters_of Tryd.func31 (by kernel_rfl) rfl) (fun fn C hC => ?_)
            have HC := Lib.hid hC
            clear hC
            refine (recs_in (N - 1) (Z.heap.size + 1) gb n n Z.heap.size (some ⟨gb + 1, 0, none⟩) l ea (fun _ W => InLoop Z C .ready none W) (fun _ => False) (by omega) (Nat.le_refl _) ?_ ?_ ?_ _ (InLoop.start Z C)).mono ?_
            · intro p W hj
              exact ⟨HE.out.below (SZ.out.1.trans (hj.below.mono hsz1)) h8, (hj.below.cell (p := ⟨gb, 0, none⟩) hbz).trans (HBX.out.cell 0), HRZ.out.below hj.below, hj.below.size⟩
            · intro p W W' hj hb
              exact hj.step hb hj.size
            · intro p r k v W W' hj hp hx hb ho
              have hj' := hj.step hb hj.size
              have hsW : Z.heap.size + 2 ≤ W.heap.size := hj.size
              have hsW' : W.heap.size ≤ W'.heap.size := hb.size
              refine yield_rec HC.out hj'.entry rfl ?_
              have HJ := Lib.hid hj'
              clear hj hj' hb
              unfold recCells
              rcases Wr.of_ow ho with ⟨rfl, hz⟩ | ⟨gv, cv, rfl, hgv, hwv⟩
              · clear ho hz
                gi_wp2
                have hj2 := HJ.out.step ((Below.refl W'.heap.size W').alloc (Nat.le_refl _) (.cells #[.int .i64 (r.field : Int), .int .i64 (r.kind : Int), .int .u64 (r.u : Int), .slice none 0 0] 29)) (by omega)
                refine ⟨hj2.entry, ?_⟩
                have hj3 := Lib.hid (hj2.put .busy none)
                have hbk : Blk ((W'.alloc (.cells #[.int .i64 (r.field : Int), .int .i64 (r.kind : Int), .int .u64 (r.u : Int), .slice none 0 0] 29)).putObj (Z.heap.size + 1) (.loop (C .busy none))) W'.heap.size 29 #[.int .i64 (r.field : Int), .int .i64 (r.kind : Int), .int .u64 (r.u : Int), .slice none 0 0] := (World.putObj_heap_other (by omega)).trans (Blk.new W' 29 _)
                clear hj2 HJ
                generalize (W'.alloc _).putObj _ _ = U at hj3 hbk ⊢
                have c3 : U.cell? ⟨W'.heap.size, 3, none⟩ = some (.slice none 0 0) := hbk.cell 3
                clear hbk
                gi_wp2
                refine wpIn_loop_rounds 1 ?_
                rw [roundsIn_succ]
                gi_wp2
                exact ⟨hj3.out.entry, .inl ⟨rfl, hj3.out.put .ready none⟩⟩
              · have hgv2 := hwv.lt
                have hgn : gv ≠ W'.heap.size := by omega
                have HWV := Lib.hid hwv
                obtain ⟨_, _, _, hm1, hm2, _⟩ := ho.form
                have hmb : r.b.length ≤ 9223372036854775807 := by unfold maxLen at hm2; omega
                clear ho hwv hm1 hm2
                obtain ⟨m, hm⟩ : ∃ m, r.b.length = m := ⟨_, rfl⟩
                rw [hm] at HWV hmb ⊢
                clear hm
                gi_wp2
                have hj2 := HJ.out.step ((Below.refl W'.heap.size W').alloc (Nat.le_refl _) (.cells #[.int .i64 (r.field : Int), .int .i64 (r.kind : Int), .int .u64 (r.u : Int), .slice (some ⟨gv, 0, none⟩) m cv] 29)) (by omega)
                refine ⟨hj2.entry, ?_⟩
                have hj3 := Lib.hid (hj2.put .busy none)
                have hbk : Blk ((W'.alloc (.cells #[.int .i64 (r.field : Int), .int .i64 (r.kind : Int), .int .u64 (r.u : Int), .slice (some ⟨gv, 0, none⟩) m cv] 29)).putObj (Z.heap.size + 1) (.loop (C .busy none))) W'.heap.size 29 #[.int .i64 (r.field : Int), .int .i64 (r.kind : Int), .int .u64 (r.u : Int), .slice (some ⟨gv, 0, none⟩) m cv] := (World.putObj_heap_other (by omega)).trans (Blk.new W' 29 _)
                have hw3 := (HWV.out.grown (grown_of_below ((Below.refl W'.heap.size W').alloc (Nat.le_refl _) (.cells #[.int .i64 (r.field : Int), .int .i64 (r.kind : Int), .int .u64 (r.u : Int), .slice (some ⟨gv, 0, none⟩) m cv] 29)) none) (by simp)).grown (grownBy_putObj' _ (Z.heap.size + 1) (.loop (C .busy none))) (by simp; omega)
                have HBK3 := Lib.hid hbk
                have HW3 := Lib.hid hw3
                clear hj2 HJ hbk hw3 HWV
                generalize (W'.alloc _).putObj _ _ = U at hj3 HBK3 HW3 ⊢
                generalize W'.heap.size = gr at *
                gi_wp2
                gi_loopw [12] (fun ix wx => ∃ i : Nat, i ≤ m ∧ ix = .int .i64 (i : Int) ∧ InLoop Z C .busy none wx ∧ Blk wx gr 29 #[.int .i64 (r.field : Int), .int .i64 (r.kind : Int), .int .u64 (r.u : Int), .slice (some ⟨gv, 0, none⟩) m cv] ∧ Wr wx gv m) (fun ix _ => m - (intOf ix).toNat)
                case atStart => exact ⟨0, Nat.zero_le _, rfl, hj3.out, HBK3.out, HW3.out⟩
                case round =>
                  obtain ⟨i, hi, rfl, hji, hbi, hwi⟩ := hrel
                  have c3 : wr.cell? ⟨gr, 3, none⟩ = some (.slice (some ⟨gv, 0, none⟩) m cv) := hbi.cell 3
                  have HJI := Lib.hid hji
                  have HBI := Lib.hid hbi
                  have HWI := Lib.hid hwi
                  by_cases him : i < m
                  · obtain ⟨⟨xi, hxi⟩, hfi⟩ := hwi.at_ i him
                    clear hji hbi hwi
                    gi_wp2
                    go_roundw
                    case rel => exact ⟨i + 1, by omega, by go_num, HJI.out.step ((Below.refl gv _).setCell (Nat.le_refl _) _) (by omega), HBI.out.far (by simp; omega) _, HWI.out.put i _⟩
                    case measure => simp [intOf]; omega
                  · clear hji hbi hwi
                    gi_wp2
                    exact ⟨HJI.out.entry, .inl ⟨rfl, HJI.out.put .ready none⟩⟩
            · rintro e W ⟨⟨v, rfl⟩, ⟨p, _, hj, _⟩ | hF⟩
              case inr => exact hF.elim
              refine ⟨⟨v, rfl⟩, .ready, none, by decide, hj.entry, ?_⟩
              have hj9 := hj.put .exhausted none
              have S2E := Lib.hid (show Below w.heap.size w (W.putObj (Z.heap.size + 1) (.loop (C .exhausted none))) ∧ Below W2.heap.size W2 (W.putObj (Z.heap.size + 1) (.loop (C .exhausted none))) from ⟨SZ.out.1.trans (hj9.below.mono hsz1), SZ.out.2.trans (hj9.below.mono hsz2)⟩)
              have mark2 := hj9.mark
              have msz2 : Z.heap.size < (W.putObj (Z.heap.size + 1) (.loop (C .exhausted none))).heap.size := by have := hj9.size; omega
              have MW2 := Lib.hid mark2
              have MX := Lib.hid ((hj9.below.block D1 hD1z).trans MZ.out)
              have hD1x : D1 < Z.heap.size := hD1z
              clear hj hj9 mark2
              generalize W.putObj _ _ = X2 at S2E MW2 msz2 MX ⊢
              generalize Z.heap.size = D2 at *
              simp only [Behind]
              gi_wp2
              rw [roundsIn_succ]
              gi_wp2_with fail
              refine ⟨trivial, fun h => (by cases h), ?_⟩
              refine (callsIn_wide.2 (sameBytes_any A (some ⟨gk, 0, none⟩) n n c n l l _ w.heap.size W2.heap.size (by exact HR.out.below S2E.out.1) (by exact HK2.out.below S2E.out.2))).mono ?_
              rintro e W ⟨rfl, rfl⟩
              rw [decide_eq_true (rfl : l = l)]
              have T0 : Hid (Late w W2 D1 D2 X2) := Lib.hid ⟨S2E.out.1, S2E.out.2, MX.out, MW2.out, by omega, by omega, by omega⟩
              have T0d : Hid (Late w W2 D1 D2 X2.drew) := Lib.hid (T0.out.step ((Below.refl _ _).drew))
              have HQ1 : Hid (∀ W, Late w W2 D1 D2 W → Calls Tryd.prog 10 #[.slice A n c] W (CheckPost ea W (check l))) := Lib.hid (fun W h => check_any A n c l W ea w.heap.size (HE.out.below h.b1 h8) (HR.out.below h.b1) (by omega) hnc h.b1.size)
              have HQ2 : Hid (∀ W, Late w W2 D1 D2 W → Calls Tryd.prog 10 #[.slice (some ⟨gk, 0, none⟩) n n] W (CheckPost ea W (check l))) := Lib.hid (fun W h => check_any (some ⟨gk, 0, none⟩) n n l W ea W2.heap.size (HE.out.below h.b1 h8) (HK2.out.below h.b2) (by omega) (Nat.le_refl _) h.b2.size)
              clear S2E MX MW2 MZ hD1z S1E MW1 HE HR HK2 SZ HBX HRZ
              generalize check l = ck at HQ1 HQ2
              rcases ck with _ | ⟨pc, kc⟩
              · gi_wp2
                refine wpIn_wide.2 ?_
                go_region_held3 (fun _ => True) (exact trivial) (first
                  | (go_at_call 10; (with_reducible refine (HQ1.out _ ?_).mono ?_); (exact T0d.out); rintro e Y1 ⟨hb1, rfl⟩; (have T1 := Lib.hid (T0d.out.step hb1)); clear hb1)
                  | (go_at_call 10; (with_reducible refine (HQ2.out _ ?_).mono ?_); (exact T1.out); rintro e Y2 ⟨hb2, rfl⟩; (have T2 := Lib.hid (T1.out.step hb2)); clear hb2))
                gi_wp2
                refine ⟨by simp, .inl ⟨_, _, rfl, run_takeDeferred T2.out.m2, ?_⟩⟩
                refine ⟨by simp, .inl ⟨_, _, rfl, run_takeDeferred T2.out.left, ?_⟩⟩
                exact ⟨_, results_tmp rfl _ _ _, rfl, T2.out.end_⟩
              · gi_wp2
                refine wpIn_wide.2 ?_
                go_region_held3 (fun _ => True) (exact trivial) (first
                  | (go_at_call 10; (with_reducible refine (HQ1.out _ ?_).mono ?_); (exact T0d.out); rintro e Y1 ⟨hb1, gg1, rfl, _, _⟩; (have T1 := Lib.hid (T0d.out.step hb1)); clear hb1)
                  | (go_at_call 10; (with_reducible refine (HQ2.out _ ?_).mono ?_); (exact T1.out); rintro e Y2 ⟨hb2, gg2, rfl, _, _⟩; (have T2 := Lib.hid (T1.out.step hb2)); clear hb2))
                gi_wp2
                refine ⟨by simp, .inl ⟨_, _, rfl, run_takeDeferred T2.out.m2, ?_⟩⟩
                refine ⟨by simp, .inl ⟨_, _, rfl, run_takeDeferred T2.out.left, ?_⟩⟩
                exact ⟨_, results_tmp rfl _ _ _, rfl, T2.out.end_⟩

theorem wireOwn_all (A : Option Addr) (n c : Nat) (l : List UInt8) (u : Int) (w : World) (ea : Nat → Addr) (he : Env w ea) (hr : Rd w w.heap.size A n l) (hnc : n ≤ c) (hu : (Lit.int .u64 u).wf = true) :
    Calls Tryd.prog 5 #[.slice A n c, .int .u64 u] w fun e w' => e = .returned (.bool true) ∧ Below w.heap.size w w' := by
  have bu := bounds_u64 hu
  obtain ⟨u', rfl⟩ := Int.eq_ofNat_of_zero_le (show 0 ≤ u by omega)
  exact wireOwn_any A n c u' l w ea he hr hnc (by omega)

end Go.Proofs.YtnahkhiomnkbcaaDoor
