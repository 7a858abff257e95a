/-
  Services: the names, sorted.
-/
import Derived.Test.YtnffhmkcegiacaaDoorSt
import Derived.Test.YtnffhmkcegiacaaDoorShelf
import Derived.Sort.KeysCollected
import Derived.Sort.OwnSorted
import Derived.Maps.AppendAt
import Derived.OwnWalk
namespace Go.Own.Hl
open Go Go.RowKit Go.Own Go.Maps
/-- A board's names. -/
def namesOf (D : DataW Unit) : List (List UInt8) := (strKeys D).mergeSort fun x y => decide (x ≤ y)
end Go.Own.Hl
namespace Go.Proofs.YtnffhmkcegiacaaDoor
open Go.RowKit Go.Own Go.Own.Hl Go.Maps Go.Shelf Go.MuLone Go.Sort
attribute [local go_sem] Oper.semAt_some
theorem infoS : (Tryd.prog.info? 9).map (fun i => (i.zero, i.size, i.bytes)) = some (some (.string ⟨#[]⟩), 1, 16) := by kernel_rfl
theorem infoI : (Tryd.prog.info? 3).map (fun i => (i.zero, i.size, i.bytes)) = some (some (.int .i64 0), 1, 8) := by kernel_rfl
section
variable {w : World} {bb ms mw n nw : Nat} {most last : Int} {sh : Bool} {D : DataW Unit} {Dw : DataW Value} {ea : Nat → Addr}
set_option maxHeartbeats 4000000 in
set_option maxRecDepth 100000 in
theorem services_any (h : Bd w bb ms mw most last sh n nw D Dw) (hn : n < 1000) :
    Calls Tryd.prog 8 #[.pointer (some ⟨bb, 0, none⟩)] w fun e w' => (∃ g cap, e = .returned (.slice (some ⟨g, 0, none⟩) (namesOf D).length cap) ∧
      w'.ownsRow w.heap.size 9 1 (.slice (some ⟨g, 0, none⟩) (namesOf D).length cap) (namesOf D).length ((namesOf D).map encStr)) ∧ w.grownBy w' none := by
  obtain ⟨i0, hi, hz0, hz1, hz2⟩ := info_parts infoS
  have c0 := h.blk.cell 0
  simp only [bdCells, List.getElem?_toArray, List.getElem?_cons_zero] at c0
  have f0 := h.frozen 0
  have hL := h.held
  have hown1 := h.svc.setCell (a := ⟨bb, 0, none⟩) h.ne1 (.int .i32 1)
  have HR := Lib.hid fun (w2 : World) (hg : (w.setCell ⟨bb, 0, none⟩ (.int .i32 1)).grownBy w2 none) => h.round hg (by simp)
  have hszw : (w.setCell ⟨bb, 0, none⟩ (.int .i32 1)).heap.size = w.heap.size := setCell_size _ _
  obtain ⟨W0, hW0⟩ : ∃ W0, w.setCell ⟨bb, 0, none⟩ (.int .i32 1) = W0 := ⟨_, rfl⟩
  rw [hW0] at hL hown1 HR hszw
  have d3 := hL.cell 3
  simp only [List.getElem?_toArray, List.getElem?_cons_zero, List.getElem?_cons_succ] at d3
  have HL := Lib.hid hL
  have HZ := Lib.hid hszw
  have hsz : Maps.size D ≤ n := h.svc.size_le
  have hbl := hown1.lt
  have HNE := Lib.hid h.ne1
  have hmL : maxLen = 9223372036854775807 := rfl
  have HML := Lib.hid hmL
  clear h hL hszw hmL
  go_enter_defers Tryd.func8, Tryd.ntmps8
  go_wp2_with (first
    | (go_at_call 16; refine (lock_free Tryd.muLib ⟨bb, 0, none⟩ _ c0 f0).mono ?_; rintro e w' ⟨rfl, rfl⟩)
    | (at_len; refine wpList_len_own _ rfl _ 45 rfl 9 3 Tryd.underlying45 _ ms n D rfl hown1 ?_)
    | (at_make; refine wpList_make_own _ rfl _ _ 33 rfl w.heap.size 9 i0 (.string ⟨#[]⟩) 1 Tryd.underlying33 hi hz0 hz1 _ _ _ (Maps.size D) rfl rfl rfl (by rw [hz2]; omega) (by have := HML.out; omega) (by have := HZ.out; omega) ?_; intro w1 hrow1 hg1; have e3 := (HL.out.grown hg1 (by simp)).cell 3; simp only [List.getElem?_toArray, List.getElem?_cons_zero, List.getElem?_cons_succ] at e3)
    | (at_range; refine wpList_range_own _ rfl _ 45 rfl 9 3 kS Tryd.underlying45 _ ms n D rfl (hown1.kept hg1 (by simp)) ?_; intro w0 hrg0 hg0 hs0))
  have HG1 := Lib.hid hg1
  have HG0 := Lib.hid hg0
  have HR1 := Lib.hid hrow1
  have HN0 := Lib.hid hrg0
  clear hg1 hg0 hrow1 hrg0 hs0 e3 hown1
  go_frame
  go_loopw [3] (fun v wr => ∃ (left : Lit → Bool) (cnt : Nat) (ss : List (List UInt8)) (v0 : Value), v0 = v ∧ Hid (wr.ranges Tryd.prog 9 (plainElem Tryd.prog 3) ms w1.heap.size n D left cnt ∧ ss.length + cnt ≤ Maps.size D ∧
      wr.ownsRow w.heap.size 9 1 v0 ss.length (ss.map encStr) ∧ v0 ≠ .slice none 0 0 ∧ Collected D left ss ∧ W0.grownBy wr none))
    (fun _ wr => wr.rangeLeft ms w1.heap.size)
  case atStart =>
    exact ⟨_, _, [], _, rfl, Lib.hid ⟨HN0.out, by simp, HR1.out.kept HG0.out (Or.inr (by simp [Value.ownBlock])), by simp, Collected.start D, grown_trans2 HG1.out HG0.out⟩⟩
  case round =>
    obtain ⟨left, cnt, ss, v0, rfl, hh⟩ := hrel
    obtain ⟨hrg, hcs, hrow, hnn, hC, hgr⟩ := hh.out
    have HRG := Lib.hid hrg
    have HROW := Lib.hid hrow
    have HC := Lib.hid hC
    have HGR := Lib.hid hgr
    clear hh hrow hC hgr
    go_wp2_with (first
      | (at_next; refine wpList_next_ranges _ rfl _ rfl 9 kS (plainElem Tryd.prog 3) encStr (Value.int .i64) (fun key kl hk => by obtain ⟨x, hx, _⟩ := Maps.keyOf_str Tryd.underlying9 hk; exact ⟨x, hx⟩) (fun v y hv => by obtain ⟨c, rfl, _⟩ := plainElem_int_inv Tryd.underlying3 hv; exact ⟨c, rfl⟩) ms w1.heap.size n _ _ _ rfl hrg ?_ ?_))
    · intro hc0 hl0
      rcases HROW.out.2 with ⟨hnil, _⟩ | ⟨g, cap, cur, rfl, hbase, hb, h1, h2, h3, h4⟩
      · exact absurd hnil hnn
      have hH : Holds encStr wr g 0 ss.toArray := holds_of_block hb (by simpa using h4)
      have hgl : g < wr.heap.size := (Array.getElem?_eq_some_iff.1 hb).1
      have HS := Lib.hid (Tryd.slices_Sort_string g 0 cap ss wr hH hgl (by omega))
      have hperm := HC.out.perm hrg.owns kS Tryd.underlying9 hl0
      have hmerge : ss.mergeSort (fun x y => decide (x ≤ y)) = namesOf D := mergeSort_of_perm hperm
      have hlen : (namesOf D).length = ss.length := by rw [← hmerge, List.length_mergeSort]
      have HOW := Lib.hid fun (nn : Nat) (os : Array Obj) => ownsRow_sorted (n := nn) (os := os) (ts := ss.mergeSort fun x y => decide (x ≤ y)) (by simp) hbase hb h1 h2 h3
      have HBA := Lib.hid hbase
      have HLE := Lib.hid hlen
      have HME := Lib.hid hmerge
      clear hb h1 h2 h3 h4 hH hgl hbase hlen hmerge hperm hnn hcs hrg HRG HROW HC
      go_wp2_with (go_at_call 18; refine HS.out.mono ?_; rintro e w' ⟨rfl, nn, os, rfl⟩)
      have hgs := grown_new HGR.out (grownBy_sorted (w := wr) (g := g) (n := nn) (os := os) (ss.mergeSort fun x y => decide (x ≤ y)).toArray) (fun j e => by cases e; have := HBA.out; have := HZ.out; omega)
      have hLs := HL.out.grown hgs (by simp)
      refine leaves_cons (f := 17) (args := #[.pointer (some ⟨bb, 0, none⟩)]) (by simp) (by simp [go_sem]) ?_
      refine (unlock_deferred Tryd.muLib ⟨bb, 0, none⟩ .returning _ (hLs.cell 0) (hLs.frozen 0)).mono ?_
      rintro e u' w'' ⟨rfl, rfl, rfl⟩
      have ho := HOW.out nn os
      have hbb : some bb ≠ some g := fun e => by have := HBA.out; have := HL.out.lt; have := HZ.out; have := Option.some.inj e; omega
      have ho2 := ho.kept (grown_set _ ⟨bb, 0, none⟩ (.int .i32 0)) (Or.inr (by simpa [Value.ownBlock] using Ne.symm hbb))
      rw [HME.out] at ho2
      rw [← HLE.out] at ho2
      refine ⟨_, results_tmp rfl _ _ _, ⟨g, cap, by rw [HLE.out]; rfl, ?_⟩, HR.out _ hgs⟩
      rw [HME.out]
      exact ho2
    · intro x c kl yd yp w2 cnt2 hkey hlk hv hat hrg2 hlt hg2 hs2 hen
      obtain ⟨x', ex, rfl, _⟩ := Maps.keyOf_str Tryd.underlying9 hkey
      obtain rfl : x = x' := encStr_inj ex
      have hrow2 := HROW.out.kept hg2 (Or.inr (row_ne_iter HROW.out hrg).symm)
      have HRW := Lib.hid hrow2
      have HCN := Lib.hid (HC.out.step hlk hat)
      have hle2 : w.heap.size ≤ w2.heap.size := by have := HGR.out.size; have := hg2.size; have := HZ.out; omega
      have HG2 := Lib.hid (grown_new HGR.out hg2 (fun j e => by cases e; exact HG1.out.size))
      have HLT := Lib.hid hlt
      have HRG2 := Lib.hid hrg2
      clear hs2 hg2 hrg2 hlt hat hlk hkey hv
      go_wp2_with (at_builtin; refine wpList_append_own _ rfl _ _ 33 rfl w.heap.size 9 i0 (.string ⟨#[]⟩) 1 16 Tryd.underlying33 hi hz0 hz1 hz2 rfl (by decide) _ _ _ rfl (HRW.out.alloc _) ⟨w2.heap.size, 0, none⟩ 1 1 [encStr x] rfl rfl (cell_one_new _ _ _) (by simp [Value.oneCell', encStr]) (by have := HML.out; omega) (by omega) (by simp; omega) ?_; intro v' w3 hown' hg3 hnil3; go_frame)
      have HRG3 := Lib.hid ((HRG2.out.alloc (.cells #[encStr x] 9)).kept hg3 (row_ne_low HRW.out (by have := HZ.out; omega)) (row_ne_iter HRW.out HRG2.out))
      refine ⟨⟨_, cnt2, ss ++ [x], v', rfl, Lib.hid ⟨HRG3.out, by have := HLT.out; simp; omega, by simpa using hown', fun hv' => by have := (hnil3.1 hv').2; omega, HCN.out, ?_⟩⟩, by rw [HRG3.out.left_eq, hrg.left_eq]; exact HLT.out⟩
      exact grown_new (grown_trans2 HG2.out (World.grownBy_alloc w2 (.cells #[encStr x] 9) none)) hg3 (fun j e => by have := (HRW.out.lt j e).1; have := HZ.out; omega)
end
end Go.Proofs.YtnffhmkcegiacaaDoor
