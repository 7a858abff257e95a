/-
  What an append to a stream's own bytes leaves; contracts: Send, Ping, Bye that are taken, Ate that is not.
  Contract: Send that is taken.
-/
import Derived.Test.YtkpppjhbmnfmkaaGreatDoorJw
import Derived.Test.YtkpppjhbmnfmkaaGreatDoorJc
import Derived.Test.YtkpppjhbmnfmkaaGreatDoorJk
import Derived.BigQuiet
import Derived.Deep.RegionLaw
set_option linter.unusedSimpArgs false
set_option linter.unusedVariables false
section
namespace Go.Proofs.YtkpppjhbmnfmkaaGreatDoor
open Go.RowKit Go.Own Go.Own.Im Go.Own.Cx Go.Own.Fr
section
variable {wA w8 : World} {ow : Nat → Tg} {b : Nat} {M : Cv} {L : Lay} {row : Option Nat}
theorem CN.waited (h : CN wA ow b M L) {s : Sv} (hs : s ∈ M.strs) {v : Value} {l : List UInt8} (hO : Oz w8 (fun g => ow g = .st s.id 5 ∨ (row = none ∧ g = wA.heap.size)) v l) (hg : wA.grownBy w8 row) (hr : ∀ g, row = some g → ow g = .st s.id 5 ∧ g < wA.heap.size) :
    ∃ ow' L', CN (w8.setCell ⟨(L.s s.id).sb, 6, none⟩ v) ow' b { M with strs := updS M.strs { s with waits := l } } L' ∧ Fr wA ow (w8.setCell ⟨(L.s s.id).sb, 6, none⟩ v) ow' ∧ ∀ id, (L'.s id).sb = (L.s id).sb := by
  obtain ⟨ow', k, hfr, hnew, hown⟩ := h.apped hg hr (by simp)
  have hS := h.p.strs s hs
  have hz : Oz w8 (fun g => ow' g = .st s.id 5) v l := hO.owned hown
  have hsz : (w8.setCell ⟨(L.s s.id).sb, 6, none⟩ v).heap.size = w8.heap.size := by simp [World.setCell]
  have hp := k.at_ (.st s.id 0) (by simp) (by simp) _ hS.tb hS.blk.lt
  have hb8 : Blk w8 (L.s s.id).sb 122 (stC s (L.s s.id)) := hp.1.trans hS.blk
  have k2 : Kp (fun x => x = .st s.id 5 ∨ x = .st s.id 0) wA ow (w8.setCell ⟨(L.s s.id).sb, 6, none⟩ v) ow' := ⟨by have := k.size; omega, fun g hn ht hlt => by
    have h1 := k.keep g hn (fun e => ht (.inl e)) hlt
    exact ⟨(Below.heap_setCell w8 _ _ g (fun e => ht (.inr (by rw [e]; exact hS.tb)))).trans h1.1, h1.2⟩⟩
  have hbk := h.blkK k2 (by simp)
  have hlast : Blk (w8.setCell ⟨(L.s s.id).sb, 6, none⟩ v) (L.s s.id).sb 122 (stC { s with waits := l } { L.s s.id with waits := v }) := hb8.put 6 v
  have hz2 : Oz (w8.setCell ⟨(L.s s.id).sb, 6, none⟩ v) (fun g => ow' g = .st s.id 5) v l := hz.grown (grown_setCell (World.grownBy.refl w8 (some (L.s s.id).sb)) 6 v) fun g e he => by
    injection e with e
    subst e
    rw [hp.2] at he
    simp at he
  have hst : ∀ x ∈ updS M.strs { s with waits := l }, SN (w8.setCell ⟨(L.s s.id).sb, 6, none⟩ v) ow' L.ob ((fun i => if i = s.id then { L.s s.id with waits := v } else L.s i) x.id) x := by
    intro x hx
    obtain ⟨y, hy, rfl⟩ := List.mem_map.1 hx
    by_cases e : y.id = s.id
    · rw [if_pos e]
      show SN _ ow' L.ob (if s.id = s.id then { L.s s.id with waits := v } else L.s s.id) _
      rw [if_pos rfl]
      exact ⟨hlast, hp.2, (k2.at_ (.st s.id 1) (by simp) (by simp) _ hS.ti hS.inw.lt).1.trans hS.inw, (k2.at_ (.st s.id 1) (by simp) (by simp) _ hS.ti hS.inw.lt).2,
        (k2.at_ (.st s.id 2) (by simp) (by simp) _ hS.to hS.outw.lt).1.trans hS.outw, (k2.at_ (.st s.id 2) (by simp) (by simp) _ hS.to hS.outw.lt).2,
        (k2.at_ (.st s.id 3) (by simp) (by simp) _ hS.tp hS.pair.lt).1.trans hS.pair, (k2.at_ (.st s.id 3) (by simp) (by simp) _ hS.tp hS.pair.lt).2,
        (k2.at_ (.st s.id 4) (by simp) (by simp) _ hS.tr hS.row.lt).1.trans hS.row, (k2.at_ (.st s.id 4) (by simp) (by simp) _ hS.tr hS.row.lt).2, hz2⟩
    · rw [if_neg e]
      show SN _ ow' L.ob (if y.id = s.id then { L.s s.id with waits := v } else L.s y.id) y
      rw [if_neg e]
      exact h.p.strK k2 y hy (by intro j; simp; exact ⟨fun e2 => absurd e2 e, fun e2 => absurd e2 e⟩)
  have hsb : ∀ id, ((fun i => if i = s.id then { L.s s.id with waits := v } else L.s i) id).sb = (L.s id).sb := by
    intro id
    show (if id = s.id then { L.s s.id with waits := v } else L.s id).sb = _
    by_cases e : id = s.id
    · rw [if_pos e, e]
    · rw [if_neg e]
  refine ⟨ow', { L with s := fun i => if i = s.id then { L.s s.id with waits := v } else L.s i }, ⟨hbk.1, hbk.2, ⟨h.p.fedK k2 (by simp), h.p.outK k2 (by simp), h.p.evK k2 (by simp) (by simp), (h.p.inwK k2 (by simp)).1, (h.p.inwK k2 (by simp)).2, (h.p.outwK k2 (by simp)).1, (h.p.outwK k2 (by simp)).2, ?_, (h.p.mapK k2 (by simp)).2, hst,
      h.p.lstK k2 (by simp) (by simp), h.p.encK k2 (by simp), h.p.decK k2 (by simp)⟩, fun g hge => hnew g (by omega)⟩, hfr.trans ?_, hsb⟩
  · show SM _ _ _ _ ((updS M.strs { s with waits := l }).map (·.id)) _
    rw [updS_ids]
    refine (h.p.mapK k2 (by simp)).1.same fun i _ => ?_
    unfold sptr
    rw [hsb i]
  · exact Fr.grown (grown_setCell (World.grownBy.refl w8 (some (L.s s.id).sb)) 6 v) fun g e => by injection e with e; subst e; rw [hp.2]; simp
end
section
variable {w : World} {ow : Nat → Tg} {b : Nat} {M : Cv} {L : Lay} {a : Addr}
theorem flg_ping (x : Bool) (l : List UInt8) : flg { typ := 6, ack := x, data := l } = if x then 1 else 0 := by cases x <;> simp [flg]
theorem pay_ping (x : Bool) (l : List UInt8) : pay { typ := 6, ack := x, data := l } = l := by simp [pay]
theorem infC_ping (x : Bool) (l : List UInt8) (v : Value) : infC { typ := 6, ack := x, data := l } (.slice none 0 0) v = #[.int .i64 6, .int .i64 0, .int .i64 0, .bool false, .bool false, .bool x, .bool false, .bool false, .bool false, .int .i64 0, .int .i64 0, .int .i64 0, .int .i64 0, .int .i64 0, .int .i64 0, .int .i64 0, .slice none 0 0, v] := rfl
theorem CN.byes (h : CN w ow b M L) : CN (w.setCell ⟨b, 17, none⟩ (.bool true)) ow b { M with bye := true } L ∧ Fr w ow (w.setCell ⟨b, 17, none⟩ (.bool true)) ow := h.cell 17 _ rfl h.p
end
end Go.Proofs.YtkpppjhbmnfmkaaGreatDoor
end

section
namespace Go.Proofs.YtkpppjhbmnfmkaaGreatDoor
open Go.RowKit Go.Own Go.Own.Im Go.Own.Cx Go.Own.Fr
attribute [local go_sem] Oper.semAt_some
theorem updS_two (l : List Sv) {s1 s2 : Sv} (e : s2.id = s1.id) : updS (updS l s1) s2 = updS l s2 := by
  unfold updS
  rw [List.map_map]
  refine List.map_congr_left fun x _ => ?_
  show (if (if x.id = s1.id then s1 else x).id = s2.id then s2 else if x.id = s1.id then s1 else x) = _
  by_cases h : x.id = s1.id
  · rw [if_pos h, if_pos e.symm, if_pos (h.trans e.symm)]
  · rw [if_neg h]
theorem mem_updS {l : List Sv} {s s' : Sv} (hs : s ∈ l) (e : s.id = s'.id) : s' ∈ updS l s' := List.mem_map.2 ⟨s, hs, by simp [e]⟩
/-- A stream that something was sent to. -/
def sentS (s : Sv) (l : List UInt8) (fin : Bool) : Sv := { s with waits := s.waits ++ l, own := if fin then 2 else s.own }
set_option maxHeartbeats 4000000 in
set_option maxRecDepth 100000 in
theorem send_ok (w : World) (ow : Nat → Tg) (b : Nat) (M : Cv) (L : Lay) (h : CN w ow b M L) (hd : M.dead = false) (s : Sv) (id : Int) (hs : strAt M id = some s) (ho : s.own = 1) (hw : (Lit.int .i64 id).wf = true) (A : Option Addr) (n c : Nat) (l : List UInt8) (fin : Bool) (hr : Rd w w.heap.size A n l) (hn : s.waits.length + n ≤ 140737488355328) :
    Calls Tryz.prog 30 #[.pointer (some ⟨b, 0, none⟩), .int .i64 id, .slice A n c, .bool fin] w (CPost w ow b { M with strs := updS M.strs (sentS s l fin) } .nilIface) := by
  have hmem := (at_some (L := L) hs).2.1
  have HS := Lib.hid (sending_ok h hd s id hs ho hw)
  have HC := Lib.hid h
  have HR := Lib.hid hr
  have HM := Lib.hid hmem
  have HN := Lib.hid hn
  have HO := Lib.hid ho
  obtain ⟨A0, c0, hA0, _, _⟩ := (h.p.strs s hmem).waits.form
  have HA0 := Lib.hid hA0
  clear h hr hmem hn ho hA0 hs hd hw
  obtain ⟨sb, hsb⟩ : ∃ g, (L.s s.id).sb = g := ⟨_, rfl⟩
  have HB := Lib.hid hsb
  rw [hsb] at HS
  clear hsb
  cases fin
  all_goals
    go_enter Tryz.func30, Tryz.ntmps30
    go_wp2_with fail
    refine HS.out.mono ?_
    rintro e w1 ⟨rfl, m, rfl⟩
    have HC1 := Lib.hid (HC.out.drewN m)
    have HR1 := Lib.hid (show Rd (w.drewN m) w.heap.size A n l from HR.out)
    have HF1 := Lib.hid (Fr.drewN w ow m)
    generalize w.drewN m = W1 at *
    have hS1 := HC1.out.p.strs s HM.out
    have hoz := hS1.waits
    have hbl := hS1.blk
    have htb := hS1.tb
    rw [HA0.out] at hoz
    rw [HB.out] at hbl htb
    have d6 : W1.cell? ⟨sb, 6, none⟩ = some (L.s s.id).waits := hbl.cell 6
    have HOwn := Lib.hid (show (L.s s.id).waits = .slice A0 s.waits.length c0 from HA0.out)
    rw [HA0.out] at d6
    have HOz := Lib.hid hoz
    have HBl := Lib.hid hbl
    have HTb := Lib.hid htb
    have HLn := Lib.hid (show s.waits.length + n ≤ 140737488355328 from HN.out)
    clear hoz hbl htb hS1
    go_upto_region 5 with (first
      | (at_builtin
         refine wpList_app_z byteP _ rfl (.tmp 24) (.tmp 25) rfl (fun g => ow g = .st s.id 5) (.slice A0 s.waits.length c0) s.waits rfl HOz.out w.heap.size A n c l rfl HR1.out HLn.out ?_
         intro A8 c8 w8 row8 hO8 hg8 hr8
         have HW := Lib.hid (HC1.out.waited HM.out hO8 hg8 hr8)
         have hP8 := HBl.out.grown hg8 (fun e => by have h1 := (hr8 sb e.symm).1; rw [HTb.out] at h1; simp at h1)
         have hf8 : w8.frozen? ⟨sb, 6, none⟩ = false := hP8.frozen 6
         have hc8 : w8.cell? ⟨sb, 6, none⟩ = some (L.s s.id).waits := hP8.cell 6
         rw [HOwn.out] at hc8
         rw [HB.out] at HW
         clear hP8 hO8 hg8 hr8)
      | fail)
    obtain ⟨ow9, L9, hc9, hf9, hl9⟩ := HW.out
    have HC9 := Lib.hid hc9
    have HF9 := Lib.hid (HF1.out.trans hf9)
    have hm9 : ({ s with waits := s.waits ++ l } : Sv) ∈ updS M.strs { s with waits := s.waits ++ l } := mem_updS HM.out rfl
    have hb9 := (hc9.p.strs _ hm9).blk
    have e9 : (L9.s s.id).sb = sb := (hl9 s.id).trans HB.out
    rw [show (L9.s ({ s with waits := s.waits ++ l } : Sv).id).sb = sb from e9] at hb9
    have s1 := hb9.cell 1
    have sf := hb9.frozen 1
    have hk := hc9.strcell (s := { s with waits := s.waits ++ l }) (s' := { s with waits := s.waits ++ l, own := 2 }) hm9 rfl 1 (.int .i64 2) rfl rfl rfl rfl
    rw [show (L9.s ({ s with waits := s.waits ++ l } : Sv).id).sb = sb from e9] at hk
    have e2 := updS_two M.strs (s1 := { s with waits := s.waits ++ l }) (s2 := { s with waits := s.waits ++ l, own := 2 }) rfl
    have HK := Lib.hid hk
    have HE2 := Lib.hid e2
    clear hc9 hf9 hl9 hm9 hb9 e9 hk e2 d6 hf8 hc8
    generalize w8.setCell ⟨sb, 6, none⟩ (.slice A8 (s.waits.length + n) c8) = W9 at *
    go_wp2
    go_ret
  · exact ⟨ow9, L9, rfl, HC9.out, HF9.out⟩
  · refine ⟨ow9, L9, rfl, ?_, HF9.out.trans HK.out.2⟩
    have h := HK.out.1
    simp only [HE2.out] at h
    exact h
end Go.Proofs.YtkpppjhbmnfmkaaGreatDoor
end
