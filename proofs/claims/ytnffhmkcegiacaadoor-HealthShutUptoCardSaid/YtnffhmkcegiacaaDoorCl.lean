/-
  Watch where there are as many as may be; Next.
-/
import Derived.Test.YtnffhmkcegiacaaDoorCk
namespace Go.Proofs.YtnffhmkcegiacaaDoor
open Go.RowKit Go.Own Go.Own.Hl Go.Maps Go.Shelf Go.MuLone
attribute [local go_sem] Oper.semAt_some
section
variable {w : World} {bb ms mw n nw : Nat} {most last : Int} {sh : Bool} {D : DataW Unit} {Dw : DataW Value} {ea : Nat → Addr}
set_option maxHeartbeats 4000000 in
set_option maxRecDepth 100000 in
theorem watch_many (v : Value) (h : Bd w bb ms mw 1 last sh n 1 D (watV v)) (he : EnvH w ea) (hbb : 5 ≤ bb) (s : ByteArray) :
    Calls Tryd.prog 14 #[.pointer (some ⟨bb, 0, none⟩), .string s] w fun e w' => e = .returned (.tuple #[.int .i64 0, errV ea 1]) ∧ w.grownBy w' none := by
  have c0 := h.blk.cell 0
  simp only [bdCells, List.getElem?_toArray, List.getElem?_cons_zero] at c0
  have HL := Lib.hid h.held
  have HB := Lib.hid h
  have f0 := h.frozen 0
  have d1 := h.held.cell 2
  have d3 := h.held.cell 4
  simp only [List.getElem?_toArray, List.getElem?_cons_zero, List.getElem?_cons_succ] at d1 d3
  have hown1 := h.wat.setCell (a := ⟨bb, 0, none⟩) h.ne2 (.int .i32 1)
  have hlen := fun (k : Nat) ty => World.ownsMap.len (w := (w.setCell ⟨bb, 0, none⟩ (.int .i32 1)).drewN k) (by exact hown1) Tryd.underlying46 ty
  rw [show (Maps.size (watV v) : Int) = 1 from rfl] at hlen
  have g0 := (he.grown (grown_set w ⟨bb, 0, none⟩ (.int .i32 1)) (fun r e => by cases e; exact hbb)).many
  clear h hown1
  go_enter_defers Tryd.func14, Tryd.ntmps14
  go_wp2_with (go_at_call 16; refine (lock_free Tryd.muLib ⟨bb, 0, none⟩ _ c0 f0).mono ?_; rintro e w' ⟨rfl, rfl⟩)
  go_quiet (fail)
  go_wp2_with fail
  go_quiet (fail)
  go_wp2_with fail
  refine leaves_cons (f := 17) (args := #[.pointer (some ⟨bb, 0, none⟩)]) (by simp) (by simp [go_sem]) ?_
  refine (unlock_deferred Tryd.muLib ⟨bb, 0, none⟩ .returning _ (((HL.out.drewN _).drewN _).cell 0) (((HL.out.drewN _).drewN _).frozen 0)).mono ?_
  rintro e u' w'' ⟨rfl, rfl, rfl⟩
  exact ⟨_, results_tmp2 rfl _ _ _, rfl, HB.out.round (grown_trans2 (grown_drewN _ _) (grown_drewN _ _)) (by simp)⟩
/-- What Next answers. -/
def nxtV (c t : Int) : Value := if c = t then .tuple #[.int .i64 0, .bool false] else .tuple #[.int .i64 c, .bool true]
set_option maxHeartbeats 4000000 in
set_option maxRecDepth 100000 in
theorem next_one (wb : Nat) (t : Int) (s : ByteArray) (h : Bd w bb ms mw most last sh n 1 D (watV (.pointer (some ⟨wb, 0, none⟩)))) (hw : Blk w wb 64 #[.string s, .int .i64 t]) (h1 : wb ≠ bb) (hs : s.size ≤ maxLen) :
    Calls Tryd.prog 15 #[.pointer (some ⟨bb, 0, none⟩), .int .i64 1] w fun e w' => e = .returned (nxtV (statB sh D s.data.toList) t) ∧
      Blk w' wb 64 #[.string s, .int .i64 (statB sh D s.data.toList)] ∧ w.grownBy w' (some wb) := by
  have c0 := h.blk.cell 0
  simp only [bdCells, List.getElem?_toArray, List.getElem?_cons_zero] at c0
  have HL := Lib.hid h.held
  have HB := Lib.hid h
  have f0 := h.frozen 0
  have d3 := h.held.cell 4
  simp only [List.getElem?_toArray, List.getElem?_cons_zero, List.getElem?_cons_succ] at d3
  have hown1 := h.wat.setCell (a := ⟨bb, 0, none⟩) h.ne2 (.int .i32 1)
  have zP : ∀ W, (zeroValue 62).run Tryd.prog W = .ok (.pointer none) W := fun W => by kernel_rfl
  obtain ⟨v, ps, hrun, hv⟩ := hown1.lookup kI Tryd.underlying46 (zP _) (zd := .held (.pointer none)) (zp := []) rfl (key := .int .i64 1) (kl := .int .i64 1) (by rfl)
  obtain rfl : v = .pointer (some ⟨wb, 0, none⟩) := by
    have := congrArg Prod.fst (Option.some.inj hv)
    injection this
  have HW := Lib.hid (hw.other (a := ⟨bb, 0, none⟩) (v := .int .i32 1) (Ne.symm h1))
  have k0 := HW.out.cell 0
  have k1 := HW.out.cell 1
  have kf := HW.out.frozen 1
  simp only [List.getElem?_toArray, List.getElem?_cons_zero, List.getElem?_cons_succ] at k0 k1
  have HO := Lib.hid (h.svc.setCell (a := ⟨bb, 0, none⟩) h.ne1 (.int .i32 1))
  have HS := Lib.hid hs
  have H1 := Lib.hid h1
  clear h hown1 hv hw hs zP h1
  by_cases hc : statB sh D s.data.toList = t
  · have HC := Lib.hid hc
    have EQ := Lib.hid (show nxtV (statB sh D s.data.toList) t = .tuple #[.int .i64 0, .bool false] from if_pos hc)
    clear hc
    go_enter_defers Tryd.func15, Tryd.ntmps15
    go_wp2_with (first
      | (go_at_call 16; refine (lock_free Tryd.muLib ⟨bb, 0, none⟩ _ c0 f0).mono ?_; rintro e w' ⟨rfl, rfl⟩)
      | (go_at_call 22; refine (status_any HL.out HO.out _ HS.out).mono ?_; rw [HC.out]; rintro e w' ⟨rfl, rfl⟩))
    refine leaves_cons (f := 17) (args := #[.pointer (some ⟨bb, 0, none⟩)]) (by simp) (by simp [go_sem]) ?_
    refine (unlock_deferred Tryd.muLib ⟨bb, 0, none⟩ .returning _ (HL.out.cell 0) (HL.out.frozen 0)).mono ?_
    rintro e u' w'' ⟨rfl, rfl, rfl⟩
    refine ⟨_, results_tmp2 rfl _ _ _, ?_, ?_, HB.out.round (World.grownBy.refl _ _) (fun e => H1.out (Option.some.inj e).symm)⟩
    · rw [EQ.out]; rfl
    · rw [HC.out]; exact HW.out.other (Ne.symm H1.out)
  · have EQ := Lib.hid (show nxtV (statB sh D s.data.toList) t = .tuple #[.int .i64 (statB sh D s.data.toList), .bool true] from if_neg hc)
    have hb : (statB sh D s.data.toList == t) = false := by simpa using hc
    clear hc
    generalize hcc : statB sh D s.data.toList = c at *
    have EC := Lib.hid hcc
    clear hcc
    go_enter_defers Tryd.func15, Tryd.ntmps15
    go_wp2_with (first
      | (go_at_call 16; refine (lock_free Tryd.muLib ⟨bb, 0, none⟩ _ c0 f0).mono ?_; rintro e w' ⟨rfl, rfl⟩)
      | (go_at_call 22; refine (status_any HL.out HO.out _ HS.out).mono ?_; rw [EC.out]; rintro e w' ⟨rfl, rfl⟩))
    have HL2 := HL.out.other (a := ⟨wb, 1, none⟩) (v := .int .i64 c) H1.out
    refine leaves_cons (f := 17) (args := #[.pointer (some ⟨bb, 0, none⟩)]) (by simp) (by simp [go_sem]) ?_
    refine (unlock_deferred Tryd.muLib ⟨bb, 0, none⟩ .returning _ (HL2.cell 0) (HL2.frozen 0)).mono ?_
    rintro e u' w'' ⟨rfl, rfl, rfl⟩
    refine ⟨_, results_tmp2 rfl _ _ _, ?_, ?_, HB.out.round (grown_set _ ⟨wb, 1, none⟩ _) (fun e => H1.out (Option.some.inj e).symm)⟩
    · rw [EQ.out]; rfl
    · exact (HW.out.set 1 (.int .i64 c)).other (Ne.symm H1.out)
end
end Go.Proofs.YtnffhmkcegiacaaDoor
