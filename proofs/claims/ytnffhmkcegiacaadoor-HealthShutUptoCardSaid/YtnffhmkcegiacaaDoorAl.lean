/-
  all: the names, sorted, and what each's status is.
-/
import Derived.Test.YtnffhmkcegiacaaDoorSv
namespace Go.Own.Hl
open Go Go.RowKit Go.Own Go.Maps Go.Shelf Go.Sort Go.Proofs
theorem row_ne_blk {w : World} {base n g : Nat} {e t : TypeId} {v : Value} {xs : List Value} {cs : Array Value} (h : w.ownsRow base e 1 v n xs) (hb : Blk w g t cs) (hne : e ≠ t) : some g ≠ v.ownBlock := fun e1 => by
  rcases h.2 with ⟨rfl, _⟩ | ⟨g', cap, cur, rfl, _, hb', _⟩
  · cases e1
  · have e2 : g = g' := Option.some.inj e1
    subst e2
    unfold Blk at hb
    rw [hb'] at hb
    injection hb with hb
    injection hb with _ h2 _
    exact hne h2
/-- A row that is owned, as a block and the cells at its head. -/
theorem row_blk {w : World} {base n : Nat} {e : TypeId} {v : Value} {xs : List Value} (h : w.ownsRow base e 1 v n xs) (h0 : 0 < n) :
    ∃ g cap cur, v = .slice (some ⟨g, 0, none⟩) n cap ∧ base ≤ g ∧ Blk w g e cur ∧ ∀ i, i < n → cur[i]? = xs[i]? := by
  rcases h.2 with ⟨_, h1⟩ | ⟨g, cap, cur, hv, hb, hk, h1, h2, h3, h4⟩
  · omega
  · refine ⟨g, cap, cur, hv, hb, hk, fun i hi => ?_⟩
    rw [← h4, List.getElem?_take, if_pos (by omega)]
    simp
/-- What all answers lies so. -/
structure AllR (w : World) (base : Nat) (N : List (List UInt8)) (f : List UInt8 → Int) (a b : Value) (w' : World) : Prop where
  rest : ∃ g cap cur g2 cap2 cur2, a = .slice (some ⟨g, 0, none⟩) N.length cap ∧ b = .slice (some ⟨g2, 0, none⟩) N.length cap2 ∧ base ≤ g ∧ base ≤ g2 ∧ Blk w' g 9 cur ∧ Blk w' g2 3 cur2 ∧
    (∀ (i : Nat) (x : List UInt8), N[i]? = some x → cur[i]? = some (encStr x)) ∧ ∀ (i : Nat) (x : List UInt8), N[i]? = some x → cur2[i]? = some (.int .i64 (f x))
  gr : w.grownBy w' none
end Go.Own.Hl
namespace Go.Proofs.YtnffhmkcegiacaaDoor
open Go.RowKit Go.Own Go.Own.Hl Go.Maps Go.Shelf Go.MuLone Go.Sort
attribute [local go_sem] Oper.semAt_some
section
variable {w : World} {bb ms mw n nw : Nat} {most last : Int} {sh : Bool} {D : DataW Unit} {Dw : DataW Value} {ea : Nat → Addr}
set_option maxHeartbeats 4000000 in
set_option maxRecDepth 100000 in
theorem all_any (h : Bd w bb ms mw most last sh n nw D Dw) (hn : n < 1000) (hD : Maps.has D (.string []) = true) :
    Calls Tryd.prog 20 #[.pointer (some ⟨bb, 0, none⟩)] w fun e w' => (∃ a b, e = .returned (.tuple #[a, b]) ∧ AllR w w.heap.size (namesOf D) (statB sh D) a b w') ∧ (namesOf D).length ≤ 1000 ∧ ∀ x ∈ namesOf D, Maps.has D (.string x) = true := by
  obtain ⟨i0, hi, hz0, hz1, hz2⟩ := info_parts infoS
  obtain ⟨j0, hj, hy0, hy1, hy2⟩ := info_parts infoI
  have c0 := h.blk.cell 0
  simp only [bdCells, List.getElem?_toArray, List.getElem?_cons_zero] at c0
  have f0 := h.frozen 0
  have hL := h.held
  have hown1 := h.svc.setCell (a := ⟨bb, 0, none⟩) h.ne1 (.int .i32 1)
  have HR := Lib.hid fun (w2 : World) (hg : (w.setCell ⟨bb, 0, none⟩ (.int .i32 1)).grownBy w2 none) => h.round hg (by simp)
  have hszw : (w.setCell ⟨bb, 0, none⟩ (.int .i32 1)).heap.size = w.heap.size := setCell_size _ _
  obtain ⟨W0, hW0⟩ : ∃ W0, w.setCell ⟨bb, 0, none⟩ (.int .i32 1) = W0 := ⟨_, rfl⟩
  rw [hW0] at hL hown1 HR hszw
  have d3 := hL.cell 3
  simp only [List.getElem?_toArray, List.getElem?_cons_zero, List.getElem?_cons_succ] at d3
  have HL := Lib.hid hL
  have HZ := Lib.hid hszw
  have hsz : Maps.size D ≤ n := h.svc.size_le
  have hbl := hown1.lt
  have hmL : maxLen = 9223372036854775807 := rfl
  have HML := Lib.hid hmL
  have HD := Lib.hid hD
  clear h hL hszw hmL hD
  go_enter_defers Tryd.func20, Tryd.ntmps20
  go_wp2_with (first
    | (go_at_call 16; refine (lock_free Tryd.muLib ⟨bb, 0, none⟩ _ c0 f0).mono ?_; rintro e w' ⟨rfl, rfl⟩)
    | (at_range; refine wpList_range_own _ rfl _ 45 rfl 9 3 kS Tryd.underlying45 _ ms n D rfl hown1 ?_; intro w0 hrg0 hg0 hs0))
  have HG0 := Lib.hid hg0
  have HN0 := Lib.hid hrg0
  have HO1 := Lib.hid hown1
  clear hg0 hrg0 hs0 hown1 d3
  go_frame
  go_loopw [4] (fun v wr => ∃ (left : Lit → Bool) (cnt : Nat) (ss : List (List UInt8)) (v0 : Value), v0 = v ∧ Hid (wr.ranges Tryd.prog 9 (plainElem Tryd.prog 3) ms W0.heap.size n D left cnt ∧ ss.length + cnt ≤ Maps.size D ∧
      wr.ownsRow w.heap.size 9 1 v0 ss.length (ss.map encStr) ∧ Collected D left ss ∧ W0.grownBy wr none))
    (fun _ wr => wr.rangeLeft ms W0.heap.size)
  case atStart =>
    exact ⟨_, _, [], _, rfl, Lib.hid ⟨HN0.out, by simp, World.ownsRow_nil _ _ _ _, Collected.start D, HG0.out⟩⟩
  case round =>
    obtain ⟨left, cnt, ss, v0, rfl, hh⟩ := hrel
    obtain ⟨hrg, hcs, hrow, hC, hgr⟩ := hh.out
    have HRG := Lib.hid hrg
    have HROW := Lib.hid hrow
    have HC := Lib.hid hC
    have HGR := Lib.hid hgr
    clear hh hrow hC hgr
    go_wp2_with (first
      | (at_next; refine wpList_next_ranges _ rfl _ rfl 9 kS (plainElem Tryd.prog 3) encStr (Value.int .i64) (fun key kl hk => by obtain ⟨x, hx, _⟩ := Maps.keyOf_str Tryd.underlying9 hk; exact ⟨x, hx⟩) (fun v y hv => by obtain ⟨c, rfl, _⟩ := plainElem_int_inv Tryd.underlying3 hv; exact ⟨c, rfl⟩) ms W0.heap.size n _ _ _ rfl hrg ?_ ?_))
    · intro hc0 hl0
      have hpos : 0 < ss.length := List.length_pos_of_mem ((HC.out.2 []).2 ⟨HD.out, hl0 _⟩)
      rcases HROW.out.2 with ⟨_, h0⟩ | ⟨g, cap, cur, rfl, hbase, hb, h1, h2, h3, h4⟩
      · omega
      have hH : Holds encStr wr g 0 ss.toArray := holds_of_block hb (by simpa using h4)
      have hgl : g < wr.heap.size := (Array.getElem?_eq_some_iff.1 hb).1
      have HS := Lib.hid (Tryd.slices_Sort_string g 0 cap ss wr hH hgl (by omega))
      have hperm := HC.out.perm hrg.owns kS Tryd.underlying9 hl0
      have hmerge : ss.mergeSort (fun x y => decide (x ≤ y)) = namesOf D := mergeSort_of_perm hperm
      have hlen : (namesOf D).length = ss.length := by rw [← hmerge, List.length_mergeSort]
      have HAS : Hid (∀ x ∈ namesOf D, Maps.has D (.string x) = true) := Lib.hid fun x hx => ((HC.out.2 x).1 (by rw [← hmerge] at hx; exact List.mem_mergeSort.1 hx)).1
      have HKL := Lib.hid (strKeys_le hrg.owns Tryd.underlying9)
      have HOW := Lib.hid fun (nn : Nat) (os : Array Obj) => ownsRow_sorted (n := nn) (os := os) (ts := ss.mergeSort fun x y => decide (x ≤ y)) (by simp) hbase hb h1 h2 h3
      have HBA := Lib.hid hbase
      rw [hmerge] at HOW HS
      have hNle : (namesOf D).length ≤ 1000 := by omega
      rw [← hlen] at hpos
      rw [← hlen]
      rw [← hlen] at HOW HS
      clear hb h1 h2 h3 h4 hH hgl hbase hmerge hperm hcs hrg HRG HROW HC hlen
      go_wp2_with (go_at_call 18; refine HS.out.mono ?_; rintro e w' ⟨rfl, nn, os, rfl⟩)
      have hgs := grown_new HGR.out (grownBy_sorted (w := wr) (g := g) (n := nn) (os := os) (namesOf D).toArray) (fun j e => by cases e; have := HBA.out; have := HZ.out; omega)
      have how := HOW.out nn os
      clear HS HOW
      generalize grow _ _ = wS at hgs how ⊢
      have HGS := Lib.hid hgs
      have HOS := Lib.hid how
      clear hgs how
      obtain ⟨N, hN⟩ : ∃ N, namesOf D = N := ⟨_, rfl⟩
      have HLM : Hid (∀ x ∈ N, x.length ≤ maxLen) := Lib.hid fun x hx => HKL.out x (by rw [← hN] at hx; exact List.mem_mergeSort.1 hx)
      rw [hN] at HAS HOS hNle hpos ⊢
      have EN := Lib.hid hN
      clear hN
      go_loopw [6, 33] (fun l i wl => ∃ k : Nat, k ≤ N.length ∧ i = .int .i64 (k : Int) ∧ Hid (wS.grownBy wl none ∧ wl.ownsRow wS.heap.size 3 1 l k ((N.take k).map (fun x => Value.int .i64 (statB sh D x))))) (fun _ i _ => N.length - (intOf i).toNat)
      case atStart => exact ⟨0, Nat.zero_le _, rfl, Lib.hid ⟨World.grownBy.refl _ _, World.ownsRow_nil _ _ _ _⟩⟩
      case round =>
        obtain ⟨k, hk, rfl, hh⟩ := hrel
        obtain ⟨hgr, hrow⟩ := hh.out
        have HGR := Lib.hid hgr
        have HROW := Lib.hid hrow
        clear hh hgr hrow
        by_cases hlt : k < N.length
        · have ck : wr.cell? ⟨g, k, none⟩ = some (encStr N[k]) := HGR.out.cell ((HOS.out.cellAt k (by omega)).trans (by simp [hlt])) (by simp)
          have HX := Lib.hid (grown_trans2 HGS.out HGR.out)
          have hxl : (⟨N[k].toArray⟩ : ByteArray).size ≤ maxLen := HLM.out _ (List.getElem_mem hlt)
          have HXL := Lib.hid hxl
          have HT := Lib.hid (show N.take (k + 1) = N.take k ++ [N[k]] from List.take_succ_eq_append_getElem hlt)
          have hsz : W0.heap.size ≤ wr.heap.size := HX.out.size
          have hszS : wS.heap.size ≤ wr.heap.size := HGR.out.size
          clear hxl
          generalize N[k] = x at *
          go_wp2_with (first
            | (go_at_call 22; refine (status_any (HL.out.grown HX.out (by simp)) (HO1.out.kept HX.out (by simp)) _ HXL.out).mono ?_; rintro e w' ⟨rfl, rfl⟩)
            | (at_builtin; refine wpList_append_own _ rfl _ _ 35 rfl wS.heap.size 3 j0 (.int .i64 0) 1 8 Tryd.underlying35 hj hy0 hy1 hy2 rfl (by decide) _ _ _ rfl (HROW.out.alloc _) ⟨wr.heap.size, 0, none⟩ 1 1 [.int .i64 (statB sh D x)] rfl rfl (cell_one_new _ _ _) (by simp [Value.oneCell']) (by have := HML.out; omega) (by omega) (by simp; omega) ?_; intro v' w3 hown' hg3 hnil3; go_frame))
          go_roundw
          case rel => exact ⟨k + 1, by omega, by go_num, Lib.hid ⟨grown_new (grown_trans2 HGR.out (World.grownBy_alloc wr _ none)) hg3 (fun j e => (HROW.out.lt j e).1), by rw [HT.out, List.map_append]; exact hown'⟩⟩
          case measure => simp [intOf]; omega
        · obtain rfl : k = N.length := by omega
          go_wp2_with fail
          have hX := grown_trans2 HGS.out HGR.out
          have hLs := HL.out.grown hX (by simp)
          refine leaves_cons (f := 17) (args := #[.pointer (some ⟨bb, 0, none⟩)]) (by simp) (by simp [go_sem]) ?_
          refine (unlock_deferred Tryd.muLib ⟨bb, 0, none⟩ .returning _ (hLs.cell 0) (hLs.frozen 0)).mono ?_
          rintro e u' w'' ⟨rfl, rfl, rfl⟩
          refine ⟨_, results_tmp2 rfl _ _ _, ?_⟩
          rw [EN.out]
          refine ⟨⟨.slice (some ⟨g, 0, none⟩) N.length cap, u6, rfl, ?_, HR.out _ hX⟩, hNle, HAS.out⟩
          have hbb : bb < W0.heap.size := HL.out.lt
          have hszS : W0.heap.size ≤ wS.heap.size := HGS.out.size
          have hz := HZ.out
          obtain ⟨g1, cap1, cur1, e1, hb1, hk1, hc1⟩ := row_blk (HOS.out.kept HGR.out (Or.inr (by simp [Value.ownBlock]))) hpos
          obtain ⟨g2, cap2, cur2, e2, hb2, hk2, hc2⟩ := row_blk HROW.out hpos
          refine ⟨g1, cap1, cur1, g2, cap2, cur2, e1, e2, hb1, by omega, hk1.other (by show bb ≠ g1; omega), hk2.other (by show bb ≠ g2; omega), fun i x hx => ?_, fun i x hx => ?_⟩
          · have hi := (List.getElem?_eq_some_iff.1 hx).1
            rw [hc1 i hi, List.getElem?_map, hx]; rfl
          · have hi := (List.getElem?_eq_some_iff.1 hx).1
            rw [hc2 i hi, List.getElem?_map, List.take_of_length_le (Nat.le_refl _), hx]; rfl
    · intro x c kl yd yp w2 cnt2 hkey hlk hv hat hrg2 hlt hg2 hs2 hen
      obtain ⟨x', ex, rfl, _⟩ := Maps.keyOf_str Tryd.underlying9 hkey
      obtain rfl : x = x' := encStr_inj ex
      have hrow2 := HROW.out.kept hg2 (Or.inr (row_ne_iter HROW.out hrg).symm)
      have HRW := Lib.hid hrow2
      have HCN := Lib.hid (HC.out.step hlk hat)
      have hle2 : w.heap.size ≤ w2.heap.size := by have := HGR.out.size; have := hg2.size; have := HZ.out; omega
      have HG2 := Lib.hid (grown_new HGR.out hg2 (fun j e => by cases e; exact Nat.le_refl _))
      have HLT := Lib.hid hlt
      have HRG2 := Lib.hid hrg2
      clear hs2 hg2 hrg2 hlt hat hlk hkey hv
      go_wp2_with (at_builtin; refine wpList_append_own _ rfl _ _ 33 rfl w.heap.size 9 i0 (.string ⟨#[]⟩) 1 16 Tryd.underlying33 hi hz0 hz1 hz2 rfl (by decide) _ _ _ rfl (HRW.out.alloc _) ⟨w2.heap.size, 0, none⟩ 1 1 [encStr x] rfl rfl (cell_one_new _ _ _) (by simp [Value.oneCell', encStr]) (by have := HML.out; omega) (by omega) (by simp; omega) ?_; intro v' w3 hown' hg3 hnil3; go_frame)
      have HRG3 := Lib.hid ((HRG2.out.alloc (.cells #[encStr x] 9)).kept hg3 (row_ne_low HRW.out (by have := HZ.out; omega)) (row_ne_iter HRW.out HRG2.out))
      refine ⟨⟨_, cnt2, ss ++ [x], v', rfl, Lib.hid ⟨HRG3.out, by have := HLT.out; simp; omega, by simpa using hown', HCN.out, ?_⟩⟩, by rw [HRG3.out.left_eq, hrg.left_eq]; exact HLT.out⟩
      exact grown_new (grown_trans2 HG2.out (World.grownBy_alloc w2 (.cells #[encStr x] 9) none)) hg3 (fun j e => by have := (HRW.out.lt j e).1; have := HZ.out; omega)
end
end Go.Proofs.YtnffhmkcegiacaaDoor
