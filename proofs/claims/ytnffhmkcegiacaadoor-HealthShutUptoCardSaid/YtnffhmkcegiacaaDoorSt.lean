/-
  Set, and Forget while the board is shut.
-/
import Derived.Test.YtnffhmkcegiacaaDoorBd
namespace Go.Proofs.YtnffhmkcegiacaaDoor
open Go.RowKit Go.Own Go.Own.Hl Go.Maps Go.Shelf Go.MuLone
attribute [local go_sem] Oper.semAt_some
structure EnvH (w : World) (ea : Nat → Addr) : Prop where
  gone : w.cell? ⟨0, 0, none⟩ = some (.iface 101 (.pointer (some (ea 0))))
  many : w.cell? ⟨2, 0, none⟩ = some (.iface 101 (.pointer (some (ea 1))))
  num : w.cell? ⟨3, 0, none⟩ = some (.iface 101 (.pointer (some (ea 2))))
  name : w.cell? ⟨1, 0, none⟩ = some (.iface 101 (.pointer (some (ea 3))))
  stat : w.cell? ⟨4, 0, none⟩ = some (.iface 101 (.pointer (some (ea 4))))
  room : 5 ≤ w.heap.size
theorem EnvH.below {w w' : World} {ea : Nat → Addr} (h : EnvH w ea) (hb : Below 5 w w') : EnvH w' ea := by
  have e : ∀ g : Nat, g < 5 → w'.cell? ⟨g, 0, none⟩ = w.cell? ⟨g, 0, none⟩ := fun g hg => World.cell?_of_block (hb.block g hg)
  exact ⟨(e _ (by decide)).trans h.gone, (e _ (by decide)).trans h.many, (e _ (by decide)).trans h.num, (e _ (by decide)).trans h.name, (e _ (by decide)).trans h.stat, Nat.le_trans h.room hb.size⟩
theorem EnvH.grown {w w' : World} {ea : Nat → Addr} (h : EnvH w ea) {row : Option Nat} (hg : w.grownBy w' row) (hr : ∀ r, row = some r → 5 ≤ r) : EnvH w' ea :=
  h.below ⟨hg.os, hg.tape, hg.output, hg.size, fun i hi => hg.block i (Nat.lt_of_lt_of_le hi h.room) (fun e => by have := hr i e.symm; omega)⟩
def goneV (ea : Nat → Addr) : Value := .iface 101 (.pointer (some (ea 0)))
section
variable {w : World} {bb ms mw n nw : Nat} {most last : Int} {sh : Bool} {D : DataW Unit} {Dw : DataW Value} {ea : Nat → Addr}
/-- Taken and let go. -/
theorem Bd.round (h : Bd w bb ms mw most last sh n nw D Dw) {w2 : World} {row : Option Nat} (hb : (w.setCell ⟨bb, 0, none⟩ (.int .i32 1)).grownBy w2 row) (hne : some bb ≠ row) : w.grownBy (w2.setCell ⟨bb, 0, none⟩ (.int .i32 0)) row :=
  grown_lock h.blk rfl hb hne
set_option maxHeartbeats 4000000 in
set_option maxRecDepth 100000 in
theorem set_gone (h : Bd w bb ms mw most last true n nw D Dw) (he : EnvH w ea) (hbb : 5 ≤ bb) (hn : n < 1000) (s : ByteArray) (hs : s.size ≤ maxLen) (st : Int) (hst : 0 ≤ st ∧ st ≤ 2) :
    Calls Tryd.prog 7 #[.pointer (some ⟨bb, 0, none⟩), .string s, .int .i64 st] w fun e w' => e = .returned (goneV ea) ∧ w.grownBy w' none := by
  have c0 := h.blk.cell 0
  simp only [bdCells, List.getElem?_toArray, List.getElem?_cons_zero] at c0
  have HL := Lib.hid h.held
  have HB := Lib.hid h
  have f0 := h.frozen 0
  have d3 := h.held.cell 3
  have d6 := h.held.cell 6
  simp only [List.getElem?_toArray, List.getElem?_cons_zero, List.getElem?_cons_succ] at d3 d6
  have hown1 := h.svc.setCell (a := ⟨bb, 0, none⟩) h.ne1 (.int .i32 1)
  have g0 := (he.grown (grown_set w ⟨bb, 0, none⟩ (.int .i32 1)) (fun r e => by cases e; exact hbb)).gone
  have hsz : (Maps.size D : Int) < 1000 := by have := h.svc.size_le; omega
  have hkey := key_str s hs
  have hlen := fun ty => hown1.len Tryd.underlying45 ty
  obtain ⟨hst1, hst2⟩ := hst
  clear h
  go_enter_defers Tryd.func7, Tryd.ntmps7
  go_wp2_with (first
    | (go_at_call 16; refine (lock_free Tryd.muLib ⟨bb, 0, none⟩ _ c0 f0).mono ?_; rintro e w' ⟨rfl, rfl⟩)
    | (at_lookup; refine wpList_lookup_own_ok_int _ rfl _ _ 45 rfl 9 3 .i64 kS Tryd.underlying45 Tryd.underlying3 (zI _) ms n D rfl hown1 _ _ rfl hkey ?_; intro c hat hwc))
  all_goals
    refine leaves_cons (f := 17) (args := #[.pointer (some ⟨bb, 0, none⟩)]) (by simp) (by simp [go_sem]) ?_
    refine (unlock_deferred Tryd.muLib ⟨bb, 0, none⟩ .returning _ (HL.out.cell 0) (HL.out.frozen 0)).mono ?_
    rintro e u' w'' ⟨rfl, rfl, rfl⟩
    exact ⟨_, results_tmp rfl _ _ _, rfl, HB.out.round (World.grownBy.refl _ _) (by simp)⟩
set_option maxHeartbeats 4000000 in
set_option maxRecDepth 100000 in
theorem forget_gone (h : Bd w bb ms mw most last true n nw D Dw) (s : ByteArray) (hs : s.size ≤ maxLen) :
    Calls Tryd.prog 11 #[.pointer (some ⟨bb, 0, none⟩), .string s] w fun e w' => e = .returned (.bool false) ∧ w.grownBy w' none := by
  have c0 := h.blk.cell 0
  simp only [bdCells, List.getElem?_toArray, List.getElem?_cons_zero] at c0
  have HL := Lib.hid h.held
  have HB := Lib.hid h
  have f0 := h.frozen 0
  have d3 := h.held.cell 3
  have d6 := h.held.cell 6
  simp only [List.getElem?_toArray, List.getElem?_cons_zero, List.getElem?_cons_succ] at d3 d6
  have hown1 := h.svc.setCell (a := ⟨bb, 0, none⟩) h.ne1 (.int .i32 1)
  have hkey := key_str s hs
  clear h
  go_enter_defers Tryd.func11, Tryd.ntmps11
  go_wp2_with (first
    | (go_at_call 16; refine (lock_free Tryd.muLib ⟨bb, 0, none⟩ _ c0 f0).mono ?_; rintro e w' ⟨rfl, rfl⟩)
    | (at_lookup; refine wpList_lookup_own_ok_int _ rfl _ _ 45 rfl 9 3 .i64 kS Tryd.underlying45 Tryd.underlying3 (zI _) ms n D rfl hown1 _ _ rfl hkey ?_; intro c hat hwc))
  all_goals
    refine leaves_cons (f := 17) (args := #[.pointer (some ⟨bb, 0, none⟩)]) (by simp) (by simp [go_sem]) ?_
    refine (unlock_deferred Tryd.muLib ⟨bb, 0, none⟩ .returning _ (HL.out.cell 0) (HL.out.frozen 0)).mono ?_
    rintro e u' w'' ⟨rfl, rfl, rfl⟩
    exact ⟨_, results_tmp rfl _ _ _, rfl, HB.out.round (World.grownBy.refl _ _) (by simp)⟩
set_option maxHeartbeats 4000000 in
set_option maxRecDepth 100000 in
theorem set_open (h : Bd w bb ms mw most last false n nw D Dw) (he : EnvH w ea) (hbb : 5 ≤ bb) (hn : n < 900) (s : ByteArray) (hs : s.size ≤ maxLen) (st : Int) (hwf : (Lit.int .i64 st).wf = true) :
    Calls Tryd.prog 7 #[.pointer (some ⟨bb, 0, none⟩), .string s, .int .i64 st] w fun e w' => (∃ v, e = .returned v) ∧ (∃ D', (Maps.has D (.string []) = true → Maps.has D' (.string []) = true) ∧ Bd w' bb ms mw most last false (n + 1) nw D' Dw) ∧ w.grownBy w' (some ms) := by
  have c0 := h.blk.cell 0
  simp only [bdCells, List.getElem?_toArray, List.getElem?_cons_zero] at c0
  have HL := Lib.hid h.held
  have HB := Lib.hid h
  have f0 := h.frozen 0
  have d3 := h.held.cell 3
  have d6 := h.held.cell 6
  simp only [List.getElem?_toArray, List.getElem?_cons_zero, List.getElem?_cons_succ] at d3 d6
  have hown1 := h.svc.setCell (a := ⟨bb, 0, none⟩) h.ne1 (.int .i32 1)
  have he1 := he.grown (grown_set w ⟨bb, 0, none⟩ (.int .i32 1)) (fun r e => by cases e; exact hbb)
  have g0 := he1.gone
  have g1 := he1.many
  have g4 := he1.stat
  clear he1
  have hsz : (Maps.size D : Int) < 1000 := by have := h.svc.size_le; omega
  have hkey := key_str s hs
  have hlen := fun ty => hown1.len Tryd.underlying45 ty
  obtain ⟨w1, hrun, hown2, hturn⟩ := hown1.store kS Tryd.underlying45 (by have : maxLen = 9223372036854775807 := rfl; omega) (val := .int .i64 st) (d := .lit (.int .i64 st)) (ps := []) hkey (plainElem_int Tryd.underlying3 hwf)
  have HP : Hid (Maps.has D (.string []) = true → Maps.has (D.put (.string s.data.toList) (.lit (.int .i64 st))) (.string []) = true) := Lib.hid fun hh => by
    by_cases e : Lit.string [] = Lit.string s.data.toList
    · rw [e]
      exact has_put_same h.svc.isMap (by simp [WideAt.IsKeyLit]) _
    · rw [has_put_other e]
      exact hh
  have HT := Lib.hid hturn
  have HO := Lib.hid hown2
  clear h hturn hown2
  go_enter_defers Tryd.func7, Tryd.ntmps7
  go_wp2_with (first
    | (go_at_call 16; refine (lock_free Tryd.muLib ⟨bb, 0, none⟩ _ c0 f0).mono ?_; rintro e w' ⟨rfl, rfl⟩)
    | (at_lookup; refine wpList_lookup_own_ok_int _ rfl _ _ 45 rfl 9 3 .i64 kS Tryd.underlying45 Tryd.underlying3 (zI _) ms n D rfl hown1 _ _ rfl hkey ?_; intro c hat hwc))
  all_goals
    refine leaves_cons (f := 17) (args := #[.pointer (some ⟨bb, 0, none⟩)]) (by simp) (by simp [go_sem]) ?_
    first
      | (refine (unlock_deferred Tryd.muLib ⟨bb, 0, none⟩ .returning _ (HL.out.cell 0) (HL.out.frozen 0)).mono ?_
         rintro e u' w'' ⟨rfl, rfl, rfl⟩
         have hg := HB.out.round (World.grownBy.refl _ _) (row := some ms) (fun e => HB.out.ne1 (Option.some.inj e).symm)
         have hg0 := HB.out.round (World.grownBy.refl _ _) (row := none) (by simp)
         have hb := HB.out.grown hg0 (by simp) (by simp) (by simp)
         exact ⟨_, results_tmp rfl _ _ _, ⟨_, rfl⟩, ⟨D, id, hb.blk, hb.svc.mono (Nat.le_succ _), hb.wat, hb.ne1, hb.ne2, hb.ne3⟩, hg⟩)
      | (have hL1 := HL.out.grown HT.out.grown (fun e => HB.out.ne1 (Option.some.inj e).symm)
         refine (unlock_deferred Tryd.muLib ⟨bb, 0, none⟩ .returning _ (hL1.cell 0) (hL1.frozen 0)).mono ?_
         rintro e u' w'' ⟨rfl, rfl, rfl⟩
         have hg := HB.out.round HT.out.grown (fun e => HB.out.ne1 (Option.some.inj e).symm)
         refine ⟨_, results_tmp rfl _ _ _, ⟨_, rfl⟩, ⟨_, HP.out, ?_, HO.out.setCell (a := ⟨bb, 0, none⟩) HB.out.ne1 _, HB.out.wat.kept hg (fun e => HB.out.ne3 (Option.some.inj e).symm), HB.out.ne1, HB.out.ne2, HB.out.ne3⟩, hg⟩
         exact HB.out.blk.grown hg (fun e => HB.out.ne1 (Option.some.inj e).symm))
end
end Go.Proofs.YtnffhmkcegiacaaDoor
