/-
  Check, Watch and Next of a board.
-/
import Derived.Test.YtnffhmkcegiacaaDoorAl
namespace Go.Proofs.YtnffhmkcegiacaaDoor
open Go.RowKit Go.Own Go.Own.Hl Go.Maps Go.Shelf Go.MuLone
attribute [local go_sem] Oper.semAt_some
section
variable {w : World} {bb ms mw n nw : Nat} {most last : Int} {sh : Bool} {D : DataW Unit} {Dw : DataW Value} {ea : Nat → Addr}
theorem own_blk {H : Type} {P : Program} {k : TypeId} {R : Value → Option (DataW H × List MemPlace)} {w w' : World} {b n : Nat} {D : DataW H} (h : w.ownsMap P k R b n D) (e : w'.heap[b]? = w.heap[b]?) : w'.ownsMap P k R b n D := by
  obtain ⟨es, clock, hb, r⟩ := h
  exact ⟨es, clock, e.trans hb, r⟩
theorem grown_drewN (w : World) (k : Nat) {row : Option Nat} : w.grownBy (w.drewN k) row := ⟨rfl, rfl, rfl, Nat.le_refl _, fun _ _ _ => rfl⟩
def errV (ea : Nat → Addr) (i : Nat) : Value := .iface 101 (.pointer (some (ea i)))
/-- What Check answers. -/
def chkV (ea : Nat → Addr) (c : Int) : Value := if c = 3 then .tuple #[.int .i64 0, errV ea 3] else .tuple #[.int .i64 c, .nilIface]
set_option maxHeartbeats 4000000 in
set_option maxRecDepth 100000 in
theorem check_any (h : Bd w bb ms mw most last sh n nw D Dw) (he : EnvH w ea) (hbb : 5 ≤ bb) (s : ByteArray) (hs : s.size ≤ maxLen) :
    Calls Tryd.prog 13 #[.pointer (some ⟨bb, 0, none⟩), .string s] w fun e w' => e = .returned (chkV ea (statB sh D s.data.toList)) ∧ w.grownBy w' none := by
  have c0 := h.blk.cell 0
  simp only [bdCells, List.getElem?_toArray, List.getElem?_cons_zero] at c0
  have HL := Lib.hid h.held
  have HB := Lib.hid h
  have f0 := h.frozen 0
  have HO := Lib.hid (h.svc.setCell (a := ⟨bb, 0, none⟩) h.ne1 (.int .i32 1))
  have g0 := (he.grown (grown_set w ⟨bb, 0, none⟩ (.int .i32 1)) (fun r e => by cases e; exact hbb)).name
  have HS := Lib.hid hs
  clear h
  by_cases h3 : statB sh D s.data.toList = 3
  · have H3 := Lib.hid h3
    clear h3
    go_enter_defers Tryd.func13, Tryd.ntmps13
    go_wp2_with (first
      | (go_at_call 16; refine (lock_free Tryd.muLib ⟨bb, 0, none⟩ _ c0 f0).mono ?_; rintro e w' ⟨rfl, rfl⟩)
      | (go_at_call 22; refine (status_any HL.out HO.out _ HS.out).mono ?_; rw [H3.out]; rintro e w' ⟨rfl, rfl⟩))
    go_quiet (fail)
    go_wp2_with fail
    refine leaves_cons (f := 17) (args := #[.pointer (some ⟨bb, 0, none⟩)]) (by simp) (by simp [go_sem]) ?_
    refine (unlock_deferred Tryd.muLib ⟨bb, 0, none⟩ .returning _ ((HL.out.drewN nq).cell 0) ((HL.out.drewN nq).frozen 0)).mono ?_
    rintro e u' w'' ⟨rfl, rfl, rfl⟩
    refine ⟨_, results_tmp2 rfl _ _ _, ?_, HB.out.round (grown_drewN _ nq) (by simp)⟩
    rw [H3.out]
    rfl
  · have HE := Lib.hid (show chkV ea (statB sh D s.data.toList) = .tuple #[.int .i64 (statB sh D s.data.toList), .nilIface] from if_neg h3)
    have hb : (statB sh D s.data.toList != 3) = true := by simpa using h3
    clear h3
    generalize hc : statB sh D s.data.toList = c at *
    have EC := Lib.hid hc
    clear hc
    go_enter_defers Tryd.func13, Tryd.ntmps13
    go_wp2_with (first
      | (go_at_call 16; refine (lock_free Tryd.muLib ⟨bb, 0, none⟩ _ c0 f0).mono ?_; rintro e w' ⟨rfl, rfl⟩)
      | (go_at_call 22; refine (status_any HL.out HO.out _ HS.out).mono ?_; rw [EC.out]; rintro e w' ⟨rfl, rfl⟩))
    refine leaves_cons (f := 17) (args := #[.pointer (some ⟨bb, 0, none⟩)]) (by simp) (by simp [go_sem]) ?_
    refine (unlock_deferred Tryd.muLib ⟨bb, 0, none⟩ .returning _ (HL.out.cell 0) (HL.out.frozen 0)).mono ?_
    rintro e u' w'' ⟨rfl, rfl, rfl⟩
    refine ⟨_, results_tmp2 rfl _ _ _, ?_, HB.out.round (World.grownBy.refl _ _) (by simp)⟩
    rw [HE.out]
    rfl
/-- A watch's number is laid. -/
def watV (v : Value) : DataW Value := .map [(.int .i64 1, .held v)]
set_option maxHeartbeats 4000000 in
set_option maxRecDepth 100000 in
theorem watch_one (h : Bd w bb ms mw most 0 sh n 0 D (.map [])) (hm : 1 ≤ most) (s : ByteArray) :
    Calls Tryd.prog 14 #[.pointer (some ⟨bb, 0, none⟩), .string s] w fun e w' => e = .returned (.tuple #[.int .i64 1, .nilIface]) ∧
      ∃ wb, w.heap.size ≤ wb ∧ Bd w' bb ms mw most 1 sh n 1 D (watV (.pointer (some ⟨wb, 0, none⟩))) ∧ Blk w' wb 64 #[.string s, .int .i64 (-1)] ∧ (∀ B, B ≤ w.heap.size → B ≤ bb → B ≤ mw → Below B w w') := by
  have c0 := h.blk.cell 0
  simp only [bdCells, List.getElem?_toArray, List.getElem?_cons_zero] at c0
  have HL := Lib.hid h.held
  have HB := Lib.hid h
  have f0 := h.frozen 0
  have d1 := h.held.cell 2
  have d3 := h.held.cell 4
  have d4 := h.held.cell 5
  have f4 := h.held.frozen 5
  simp only [List.getElem?_toArray, List.getElem?_cons_zero, List.getElem?_cons_succ] at d1 d3 d4
  have hown1 := h.wat.setCell (a := ⟨bb, 0, none⟩) h.ne2 (.int .i32 1)
  have hlen := fun (k : Nat) ty => World.ownsMap.len (w := (w.setCell ⟨bb, 0, none⟩ (.int .i32 1)).drewN k) (by exact hown1) Tryd.underlying46 ty
  rw [show (Maps.size (DataW.map ([] : List (Lit × DataW Value))) : Int) = 0 from rfl] at hlen
  have HO := Lib.hid hown1
  clear h hown1
  go_enter_defers Tryd.func14, Tryd.ntmps14
  go_wp2_with (go_at_call 16; refine (lock_free Tryd.muLib ⟨bb, 0, none⟩ _ c0 f0).mono ?_; rintro e w' ⟨rfl, rfl⟩)
  go_quiet (fail)
  go_wp2_with fail
  have hb5 := (HL.out.drewN nq).set 5 (.int .i64 1)
  have ho5 : (((w.setCell ⟨bb, 0, none⟩ (.int .i32 1)).drewN nq).setCell ⟨bb, 5, none⟩ (.int .i64 1)).ownsMap Tryd.prog 3 heldR mw 0 (.map []) := World.ownsMap.setCell (by exact HO.out) HB.out.ne2 _
  have hg5 : ∀ k, k < w.heap.size → k ≠ bb → (((w.setCell ⟨bb, 0, none⟩ (.int .i32 1)).drewN nq).setCell ⟨bb, 5, none⟩ (.int .i64 1)).heap[k]? = w.heap[k]? := fun k _ hk => by
    rw [setCell_other (by exact Ne.symm hk)]
    exact setCell_other (by exact Ne.symm hk)
  have hs5 : (((w.setCell ⟨bb, 0, none⟩ (.int .i32 1)).drewN nq).setCell ⟨bb, 5, none⟩ (.int .i64 1)).heap.size = w.heap.size := by
    rw [setCell_size]; exact setCell_size _ _
  have hG5 : w.grownBy (((w.setCell ⟨bb, 0, none⟩ (.int .i32 1)).drewN nq).setCell ⟨bb, 5, none⟩ (.int .i64 1)) (some bb) := grown_trans2 (grown_trans2 (grown_set w ⟨bb, 0, none⟩ _) (grown_drewN _ nq)) (grown_set _ ⟨bb, 5, none⟩ _)
  generalize World.setCell (World.drewN _ nq) _ _ = W5 at hb5 ho5 hg5 hs5 hG5 ⊢
  have HG5 := Lib.hid hG5
  clear hG5
  have e3 := hb5.cell 4
  have e5 := hb5.cell 5
  simp only [List.getElem?_toArray, List.getElem?_cons_zero, List.getElem?_cons_succ, List.setIfInBounds_toArray, List.set_cons_succ, List.set_cons_zero] at e3 e5
  obtain ⟨wA, hA1, hA2, hA3⟩ := World.ownsMap.store (w := (W5.alloc (.cells #[.string s, .int .i64 (-1)] 64)).drew) (ho5.alloc _) kI Tryd.underlying46 (by decide) (key := .int .i64 1) (val := .pointer (some ⟨W5.heap.size, 0, none⟩)) (kl := .int .i64 1) (by rfl) (d := .held (Value.pointer (some ⟨W5.heap.size, 0, none⟩))) (ps := []) rfl
  obtain ⟨wB, hB1, hB2, hB3⟩ := World.ownsMap.store (w := (W5.drew.alloc (.cells #[.string s, .int .i64 (-1)] 64))) (World.ownsMap.alloc (w := W5.drew) (by exact ho5) _) kI Tryd.underlying46 (by decide) (key := .int .i64 1) (val := .pointer (some ⟨W5.heap.size, 0, none⟩)) (kl := .int .i64 1) (by rfl) (d := .held (Value.pointer (some ⟨W5.heap.size, 0, none⟩))) (ps := []) rfl
  have HA2 := Lib.hid (And.intro hA2 hA3)
  have HB2 := Lib.hid (And.intro hB2 hB3)
  have e3a := (hb5.alloc (.cells #[.string s, .int .i64 (-1)] 64)).cell 4
  have e5a := (hb5.alloc (.cells #[.string s, .int .i64 (-1)] 64)).cell 5
  simp only [List.getElem?_toArray, List.getElem?_cons_zero, List.getElem?_cons_succ, List.setIfInBounds_toArray, List.set_cons_succ, List.set_cons_zero] at e3a e5a
  have H5 := Lib.hid (And.intro hb5 (And.intro ho5 (And.intro hg5 hs5)))
  clear hb5 ho5 hg5 hs5 hA2 hB2 hA3 hB3 hlen d1 d3 d4 f4
  go_region
  clear hB1
  have HBA := Lib.hid (((H5.out.1.alloc (.cells #[.string s, .int .i64 (-1)] 64)).drewN 1).grown HA2.out.2.grown (fun e => HB.out.ne2 (Option.some.inj e).symm))
  have HWA := Lib.hid (((Blk.new W5 64 #[.string s, .int .i64 (-1)]).drewN 1).grown HA2.out.2.grown (fun e => by have := Option.some.inj e; have := H5.out.2.1.lt; omega))
  have a5 := HBA.out.cell 5
  simp only [List.getElem?_toArray, List.getElem?_cons_zero, List.getElem?_cons_succ, List.setIfInBounds_toArray, List.set_cons_succ, List.set_cons_zero] at a5
  clear e3 e5 e3a e5a hA1
  go_wp2_with fail
  have hk : ∀ k, k < w.heap.size → k ≠ bb → k ≠ mw → (wA.setCell ⟨bb, 0, none⟩ (.int .i32 0)).heap[k]? = w.heap[k]? := fun k h1 h2 h3 => by
    rw [setCell_other (by exact Ne.symm h2), HA2.out.2.grown.block k (by simp [World.drew]; have := H5.out.2.2.2; omega) (fun e => h3 (Option.some.inj e)), ← H5.out.2.2.1 k h1 h2]
    exact Below.heap_alloc W5 _ k (by have := H5.out.2.2.2; omega)
  have hs : w.heap.size ≤ W5.heap.size := Nat.le_of_eq H5.out.2.2.2.symm
  refine leaves_cons (f := 17) (args := #[.pointer (some ⟨bb, 0, none⟩)]) (by simp) (by simp [go_sem]) ?_
  refine (unlock_deferred Tryd.muLib ⟨bb, 0, none⟩ .returning _ (HBA.out.cell 0) (HBA.out.frozen 0)).mono ?_
  rintro e u' w'' ⟨rfl, rfl, rfl⟩
  refine ⟨_, results_tmp2 rfl _ _ _, rfl, W5.heap.size, hs, ⟨HBA.out.set 0 (.int .i32 0), ?_, ?_, HB.out.ne1, HB.out.ne2, HB.out.ne3⟩, HWA.out.other (by show bb ≠ _; have := HB.out.blk.lt; omega), fun B h1 h2 h3 => ?_⟩
  · exact own_blk HB.out.svc (hk ms HB.out.svc.lt HB.out.ne1 HB.out.ne3)
  · exact HA2.out.1.setCell HB.out.ne2 _
  · have hgA := HA2.out.2.grown
    exact ⟨hgA.os.trans HG5.out.os, hgA.tape.trans HG5.out.tape, hgA.output.trans HG5.out.output, by rw [setCell_size]; have := hgA.size; simp [World.drew] at this; omega, fun i hi => hk i (by omega) (by omega) (by omega)⟩
end
end Go.Proofs.YtnffhmkcegiacaaDoor
