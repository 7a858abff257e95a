/-
  Contracts: (*Conn).put, tell, known, Dead.
  Contracts: (*Conn).bound; flow's windows: may, Take, Shift, Give; (*Conn).gives.
-/
import Derived.Test.YtkpppjhbmnfmkaaGreatDoorJc
import Derived.Test.YtkpppjhbmnfmkaaGreatDoorHy
import Derived.Deep.RegionHeld3
import Derived.Deep.RegionLaw
import Derived.Deep.DrawnRows
import Derived.Deep.QuietTactic
import Derived.BigQuiet
set_option linter.unusedSimpArgs false
set_option linter.unusedVariables false
section
namespace Go.Proofs.YtkpppjhbmnfmkaaGreatDoor
open Go.RowKit Go.Own Go.Own.Im Go.Own.Cx Go.Own.Fr
attribute [local go_sem] Oper.semAt_some
section
variable {w w' : World} {ow ow' : Nat → Tg} {b : Nat} {M : Cv} {L : Lay}
theorem CN.drewN (h : CN w ow b M L) (n : Nat) : CN (w.drewN n) ow b M L := h.keep (Nat.le_refl _) fun _ _ _ => rfl
theorem Fr.drewN (w : World) (ow : Nat → Tg) (n : Nat) : Fr w ow (w.drewN n) ow := ⟨rfl, rfl, rfl, Nat.le_refl _, fun _ _ _ => rfl, fun _ _ h => h⟩
theorem CN.tag (h : CN w ow b M L) {g : Nat} (hg : ow g = .no) (hlt : g < w.heap.size) (t : Tg) : CN w (upd ow g t) b M L := by
  have hb : b ≠ g := fun e => by have := h.tb; rw [e, hg] at this; cases this
  refine ⟨h.blk, by rw [upd_other _ _ hb]; exact h.tb, h.p.keep (Nat.le_refl _) fun j a _ _ => ⟨rfl, upd_other _ _ (fun e => a (by rw [e]; exact hg))⟩, fun j hj => by rw [upd_other _ _ (by omega)]; exact h.new j hj⟩
theorem Fr.belowTag (h : Below w.heap.size w w') (ow : Nat → Tg) {g : Nat} (hg : w.heap.size ≤ g) (t : Tg) : Fr w ow w' (upd ow g t) :=
  ⟨h.os, h.tape, h.output, h.size, fun j hj _ => h.block j hj, fun j hj ho => by rw [upd_other _ _ (by omega)]; exact ho⟩
/-- What a call of a method of an end's leaves. -/
def CPost (w : World) (ow : Nat → Tg) (b : Nat) (M' : Cv) (v : Value) (e : Ending) (w' : World) : Prop := ∃ ow' L', e = .returned v ∧ CN w' ow' b M' L' ∧ Fr w ow w' ow'
theorem CPost.ret {v : Value} {e : Ending} {M' : Cv} (h : CPost w ow b M' v e w') : e = .returned v := by
  obtain ⟨_, _, h, _⟩ := h
  exact h
/-- The same, and the streams lie where they lay. -/
def CPostL (w : World) (ow : Nat → Tg) (b : Nat) (L : Lay) (M' : Cv) (v : Value) (e : Ending) (w' : World) : Prop := ∃ ow' L', e = .returned v ∧ CN w' ow' b M' L' ∧ Fr w ow w' ow' ∧ L'.s = L.s
theorem CPostL.cp {v : Value} {e : Ending} {M' : Cv} (h : CPostL w ow b L M' v e w') : CPost w ow b M' v e w' := by
  obtain ⟨ow', L', h1, h2, h3, _⟩ := h
  exact ⟨ow', L', h1, h2, h3⟩
/-- A new slice of bytes of one's own is what waits to go out. -/
theorem CN.outs (h : CN w ow b M L) {w1 : World} (hb : Below w.heap.size w w1) {base n c : Nat} {A : Option Addr} {l : List UInt8} (ho : Ow w1 base 5 (.slice A n c) n l) (hbase : w.heap.size ≤ base) :
    ∃ ow' L', CN (w1.setCell ⟨b, 6, none⟩ (.slice A n c)) ow' b { M with out := l } L' ∧ Fr w ow (w1.setCell ⟨b, 6, none⟩ (.slice A n c)) ow' ∧ L'.s = L.s := by
  have h1 := h.below hb
  rcases ho.2 with ⟨e, h0⟩ | ⟨g, cap, cur, e, hbg, hg, r⟩
  · have hl : l = [] := List.eq_nil_of_length_eq_zero (by rw [ho.len]; exact h0)
    subst hl
    injection e with e1 e2 e3
    subst e1 e2 e3
    have h2 := h1.cell (M' := { M with out := [] }) (L' := { L with out := .slice none 0 0 }) 6 (.slice none 0 0) rfl
      ⟨h1.p.fed, Oz.nil _ _, h1.p.ev, h1.p.inw, h1.p.ti, h1.p.outw, h1.p.to, h1.p.map, h1.p.tm, h1.p.strs, h1.p.lst, h1.p.enc, h1.p.dec⟩
    exact ⟨_, _, h2.1, (Fr.below hb ow).trans h2.2, rfl⟩
  · have hgl : g < w1.heap.size := (Array.getElem?_eq_some_iff.1 hg).1
    have ht := h1.tag (h.new g (by omega)) hgl .out
    have hz : Oz w1 (fun j => upd ow g .out j = .out) (.slice A n c) l := Oz.of_ow ho fun j ej => by
      have : j = g := by
        rw [e] at ej
        simpa [Value.ownBlock] using ej.symm
      subst this
      exact upd_same _ _ _
    have h2 := ht.cell (M' := { M with out := l }) (L' := { L with out := .slice A n c }) 6 (.slice A n c) rfl
      ⟨ht.p.fed, hz, ht.p.ev, ht.p.inw, ht.p.ti, ht.p.outw, ht.p.to, ht.p.map, ht.p.tm, ht.p.strs, ht.p.lst, ht.p.enc, ht.p.dec⟩
    exact ⟨_, _, h2.1, (Fr.belowTag hb ow (by omega) .out).trans h2.2, rfl⟩
end
set_option maxHeartbeats 8000000 in
set_option maxRecDepth 100000 in
/-- A frame is laid behind those that wait. -/
theorem put_anyL (w : World) (ow : Nat → Tg) (b : Nat) (M : Cv) (L : Lay) (i : Inf) (cs : Array Value) (h : CN w ow b M L) (hcs : cs.size = 18) (hi : BuF w i cs) (ho : M.out.length ≤ 1000000000) :
    Calls Tryz.prog 39 #[.pointer (some ⟨b, 0, none⟩), .agg cs] w (CPostL w ow b L { M with out := M.out ++ frameB i.typ (flg i) i.stream (pay i) } (.tuple #[])) := by
  have HX := Lib.hid (Blk.new w 91 cs)
  have HB0 := Lib.hid ((Below.refl w.heap.size w).alloc (Nat.le_refl _) (.cells cs 91))
  have HI := Lib.hid hi
  have HC := Lib.hid h
  have HZ0 := Lib.hid (show (Tryz.prog.info? 91).map (·.size) = some cs.size by rw [hcs]; exact infSize)
  have HO := Lib.hid ho
  generalize hM : ({ M with out := M.out ++ frameB i.typ (flg i) i.stream (pay i) } : Cv) = M'
  have HM := Lib.hid hM
  clear h hi ho hcs hM
  go_enter Tryz.func39, Tryz.ntmps39
  go_upto_region 1 with fail
  have HZ := Lib.hid (show (w.alloc (.cells cs 91)).heap.size = w.heap.size + 1 by simp)
  generalize w.alloc (.cells cs 91) = W0 at *
  go_wp2_with (first
    | (refine wpList_rowGet _ rfl (.tmp 3) 91 rfl w.heap.size 91 _ rfl HX.out _ Tryz.underlying91 rfl HZ0.out ?_)
    | fail)
  refine (HI.out.bld W0 HB0.out).mono ?_
  rintro e W1 ⟨A1, c1, rfl, ho1, hb1⟩
  have HO1 := Lib.hid ho1
  have HB1 := Lib.hid (HB0.out.trans (hb1.mono HB0.out.size))
  clear ho1 hb1
  obtain ⟨Ao, co, hLo, hlo, _⟩ := HC.out.p.out.form
  go_upto_region 3 with fail
  have HF := Lib.hid (Blk.new W1 24 #[.int .i64 (i.typ : Nat), .int .i64 (flg i : Nat), .int .i64 (i.stream : Nat), .slice A1 (pay i).length c1])
  have HB2 := Lib.hid (HB1.out.alloc HB1.out.size (.cells #[.int .i64 (i.typ : Nat), .int .i64 (flg i : Nat), .int .i64 (i.stream : Nat), .slice A1 (pay i).length c1] 24))
  have HR2 := Lib.hid ((HO1.out.alloc (.cells #[.int .i64 (i.typ : Nat), .int .i64 (flg i : Nat), .int .i64 (i.stream : Nat), .slice A1 (pay i).length c1] 24)).rd)
  have hg2 := HB1.out.size
  generalize hgs : W1.heap.size = gs at *
  generalize W1.alloc (.cells #[.int .i64 (i.typ : Nat), .int .i64 (flg i : Nat), .int .i64 (i.stream : Nat), .slice A1 (pay i).length c1] 24) = W2 at *
  have HC2 := Lib.hid (HC.out.below HB2.out)
  have hRo := HC2.out.p.out
  rw [hLo] at hRo
  have HRo := Lib.hid hRo.rd
  have hc6 : W2.cell? ⟨b, 6, none⟩ = some L.out := HC2.out.blk.cell 6
  rw [hLo] at hc6
  have HLo := Lib.hid hLo
  have HGs := Lib.hid hg2
  have HS0 := Lib.hid (show W2.cell? ⟨b, 6, none⟩ = some (.slice Ao M.out.length co) ∧ W2.cell? ⟨gs, 0, none⟩ = some (.int .i64 (i.typ : Nat)) ∧ W2.cell? ⟨gs, 1, none⟩ = some (.int .i64 (flg i : Nat)) ∧ W2.cell? ⟨gs, 2, none⟩ = some (.int .i64 (i.stream : Nat)) ∧ W2.cell? ⟨gs, 3, none⟩ = some (.slice A1 (pay i).length c1) from
    ⟨hc6, HF.out.cell 0, HF.out.cell 1, HF.out.cell 2, HF.out.cell 3⟩)
  have HS0d := Lib.hid (show W2.drew.cell? ⟨b, 6, none⟩ = some (.slice Ao M.out.length co) ∧ W2.drew.cell? ⟨gs, 0, none⟩ = some (.int .i64 (i.typ : Nat)) ∧ W2.drew.cell? ⟨gs, 1, none⟩ = some (.int .i64 (flg i : Nat)) ∧ W2.drew.cell? ⟨gs, 2, none⟩ = some (.int .i64 (i.stream : Nat)) ∧ W2.drew.cell? ⟨gs, 3, none⟩ = some (.slice A1 (pay i).length c1) from HS0.out)
  clear hc6 hRo hg2 hLo hlo hgs
  go_region_held3 (fun W' => W'.cell? ⟨b, 6, none⟩ = some (.slice Ao M.out.length co) ∧ W'.cell? ⟨gs, 0, none⟩ = some (.int .i64 (i.typ : Nat)) ∧ W'.cell? ⟨gs, 1, none⟩ = some (.int .i64 (flg i : Nat)) ∧ W'.cell? ⟨gs, 2, none⟩ = some (.int .i64 (i.stream : Nat)) ∧ W'.cell? ⟨gs, 3, none⟩ = some (.slice A1 (pay i).length c1)) (first | with_reducible exact HS0.out | with_reducible exact HS0d.out | with_reducible exact HS3.out | with_reducible exact HS3d.out) (first
    | (go_at_call 67
       refine (fput_any Ao A1 M.out.length co (pay i).length c1 i.typ (flg i) i.stream M.out (pay i) W2.drew W2.heap.size W2.heap.size HRo.out (Nat.le_refl _) HR2.out (Nat.le_refl _) HO.out (by have := HI.out.len; omega) HI.out.typ HI.out.flags HI.out.stream).mono ?_
       rintro e W3 ⟨A3, c3, rfl, ho3, hb3⟩
       have hb3' : Below W2.heap.size W2 W3 := below_of_drew hb3
       have HO3 := Lib.hid (show Ow W3 W2.heap.size 5 (.slice A3 (M.out.length + (9 + (pay i).length)) c3) _ _ from ho3)
       have HB3 := Lib.hid hb3'
       have HF3 := HF.out.below hb3' HF.out.lt
       have HC3 := Lib.hid (HC2.out.below hb3')
       have HS3 := Lib.hid (show W3.cell? ⟨b, 6, none⟩ = some (.slice Ao M.out.length co) ∧ W3.cell? ⟨gs, 0, none⟩ = some (.int .i64 (i.typ : Nat)) ∧ W3.cell? ⟨gs, 1, none⟩ = some (.int .i64 (flg i : Nat)) ∧ W3.cell? ⟨gs, 2, none⟩ = some (.int .i64 (i.stream : Nat)) ∧ W3.cell? ⟨gs, 3, none⟩ = some (.slice A1 (pay i).length c1) from
         ⟨(by have h := HC3.out.blk.cell 6; rw [← HLo.out]; exact h), HF3.cell 0, HF3.cell 1, HF3.cell 2, HF3.cell 3⟩)
       have HS3d := Lib.hid (show W3.drew.cell? ⟨b, 6, none⟩ = some (.slice Ao M.out.length co) ∧ W3.drew.cell? ⟨gs, 0, none⟩ = some (.int .i64 (i.typ : Nat)) ∧ W3.drew.cell? ⟨gs, 1, none⟩ = some (.int .i64 (flg i : Nat)) ∧ W3.drew.cell? ⟨gs, 2, none⟩ = some (.int .i64 (i.stream : Nat)) ∧ W3.drew.cell? ⟨gs, 3, none⟩ = some (.slice A1 (pay i).length c1) from HS3.out)
       clear ho3 hb3 hb3' HF3)
    | fail)
  all_goals
    have hf6 := HC3.out.blk.frozen 6
    have hc6 := HS3.out.1
    go_wp2
    go_end0
    obtain ⟨ow', L', h1, h2, h3⟩ := HC.out.outs (HB2.out.trans (HB3.out.mono HB2.out.size)) HO3.out HB2.out.size
    rw [HM.out] at h1
    exact ⟨ow', L', rfl, h1, h2, h3⟩
theorem put_any (w : World) (ow : Nat → Tg) (b : Nat) (M : Cv) (L : Lay) (i : Inf) (cs : Array Value) (h : CN w ow b M L) (hcs : cs.size = 18) (hi : BuF w i cs) (ho : M.out.length ≤ 1000000000) :
    Calls Tryz.prog 39 #[.pointer (some ⟨b, 0, none⟩), .agg cs] w (CPost w ow b { M with out := M.out ++ frameB i.typ (flg i) i.stream (pay i) } (.tuple #[])) :=
  (put_anyL w ow b M L i cs h hcs hi ho).mono fun _ _ h => h.cp
/-- An event has been appended, and the slice is stored. -/
theorem CN.told {w : World} {ow : Nat → Tg} {b : Nat} {M : Cv} {L : Lay} (h : CN w ow b M L) {wA w8 : World} {A : Option Addr} {n c : Nat} {e : EvV} (hb : Below w.heap.size w wA) (hO : Cm.Ew evC 43 7 w8 0 (.slice A n c) (M.evs ++ [e])) (hg : wA.grownBy w8 L.ev.ownBlock)
    (hv : (Value.slice A n c).ownBlock = L.ev.ownBlock ∨ (Value.slice A n c).ownBlock = some wA.heap.size) (he : EvOk w ow e) :
    ∃ ow' L', CN (w8.setCell ⟨b, 7, none⟩ (.slice A n c)) ow' b { M with evs := M.evs ++ [e] } L' ∧ Fr w ow (w8.setCell ⟨b, 7, none⟩ (.slice A n c)) ow' ∧ L'.s = L.s := by
  have h1 := h.below hb
  have hrow : ∀ g, L.ev.ownBlock = some g → ow g = .ev := h.p.ev.own
  have fin : ∀ ow', Kp (fun x => x = .ev) wA ow w8 ow' → (∀ g, (Value.slice A n c).ownBlock = some g → ow' g = .ev) → (∀ g, w8.heap.size ≤ g → ow' g = .no) → Fr w ow w8 ow' →
      ∃ ow' L', CN (w8.setCell ⟨b, 7, none⟩ (.slice A n c)) ow' b { M with evs := M.evs ++ [e] } L' ∧ Fr w ow (w8.setCell ⟨b, 7, none⟩ (.slice A n c)) ow' ∧ L'.s = L.s := by
    intro ow' k ho hno hfr
    have hbk := h1.blkK k (by decide)
    have hev : ∀ e' ∈ M.evs ++ [e], EvOk w8 ow' e' := fun e' he' => by
      have h0 : EvOk wA ow e' := by
        rcases List.mem_append.1 he' with h2 | h2
        · exact h1.p.ev.each e' h2
        · obtain rfl : e' = e := by simpa using h2
          exact he.keep hb.size fun g hg hlt => ⟨hb.block g hlt, hg⟩
      exact h0.keep k.size (k.at_ .evd (by decide) (by decide))
    have hcp : CP w8 ow' M.fed M.out (M.evs ++ [e]) M.inw M.outw M.strs M.list { L with ev := .slice A n c } :=
      ⟨h1.p.fedK k (by decide), h1.p.outK k (by decide), ⟨hO, ho, hev⟩, (h1.p.inwK k (by decide)).1, (h1.p.inwK k (by decide)).2, (h1.p.outwK k (by decide)).1, (h1.p.outwK k (by decide)).2, (h1.p.mapK k (by decide)).1, (h1.p.mapK k (by decide)).2,
        fun s hs => h1.p.strK k s hs (by intro j; simp), h1.p.lstK k (by decide) (by decide), h1.p.encK k (by decide), h1.p.decK k (by decide)⟩
    have hsz : (w8.setCell ⟨b, 7, none⟩ (.slice A n c)).heap.size = w8.heap.size := by simp [World.setCell]
    refine ⟨ow', { L with ev := .slice A n c }, ⟨hbk.1.put 7 _, hbk.2, hcp.keep (by omega) fun g _ hn _ => ⟨Below.heap_setCell w8 _ _ g (fun e => hn (by rw [e]; exact hbk.2)), rfl⟩, fun g hg => hno g (by omega)⟩, hfr.trans ?_, rfl⟩
    exact Fr.grown (grown_setCell (World.grownBy.refl w8 (some b)) 7 _) fun g e => by injection e with e; subst e; rw [hbk.2]; decide
  have hsz := hg.size
  have hfr1 : Fr w ow w8 ow := (Fr.below hb ow).trans (Fr.grown hg fun g e => by rw [hrow g e]; decide)
  rcases hv with hv | hv
  · exact fin ow (Kp.row h1 hg hrow) (fun g e => hrow g (hv ▸ e)) (fun g hg => h1.new g (by omega)) hfr1
  · have hin : wA.heap.size < w8.heap.size := (hO.lt _ hv).2
    refine fin (upd ow wA.heap.size .ev) (Kp.rowNew h1 hg hrow _ (Nat.le_refl _)) (fun g e => ?_) (fun g hg => ?_) ⟨hfr1.os, hfr1.tape, hfr1.output, hfr1.size, hfr1.keep, fun j hj ho => ?_⟩
    · rw [hv] at e; injection e with e; subst e; exact upd_same _ _ _
    · rw [upd_other _ _ (by omega)]; exact h1.new g (by omega)
    · have := hb.size
      rw [upd_other _ _ (by omega)]; exact ho
theorem elEv : Cm.ElP Tryz.prog evC 33 43 7 88 := by
  refine ⟨Tryz.underlying33, ?_, fun _ => rfl, ?_, by omega, by omega⟩
  · have h : (Tryz.prog.info? 43).map (fun i => (i.zero, i.size, i.bytes)) = some (some (.agg #[.int .i64 0, .int .i64 0, .int .i64 0, .int .i64 0, .bool false, .slice none 0 0, .slice none 0 0]), 7, 88) := by kernel_rfl
    obtain ⟨i, hi, hz, h1, h2⟩ := info_parts h
    exact ⟨i, _, hi, hz, h1, h2, rfl⟩
  · intro x u hu
    simp only [evC, List.mem_cons, List.not_mem_nil, or_false] at hu
    rcases hu with rfl | rfl | rfl | rfl | rfl | rfl | rfl <;> rfl
set_option maxHeartbeats 8000000 in
set_option maxRecDepth 100000 in
/-- An event is told. -/
theorem tell_anyL (w : World) (ow : Nat → Tg) (b : Nat) (M : Cv) (L : Lay) (e : EvV) (h : CN w ow b M L) (he : EvOk w ow e) (hn : M.evs.length ≤ 900000) :
    Calls Tryz.prog 109 #[.pointer (some ⟨b, 0, none⟩), .agg (evC e)] w (CPostL w ow b L { M with evs := M.evs ++ [e] } (.tuple #[])) := by
  obtain ⟨A, c, hA, hc, _⟩ := h.p.ev.row.form
  have HC := Lib.hid h
  have HE := Lib.hid he
  have HN := Lib.hid hn
  generalize hM : ({ M with evs := M.evs ++ [e] } : Cv) = M'
  have HM := Lib.hid hM
  have HA := Lib.hid hA
  clear h he hn hM hA hc
  obtain ⟨k, st, co, la, fi, l1, l2, b1, b2, hl, bl⟩ := e
  simp only [evC]
  generalize hll : hl.length = nl
  generalize hbl : bl.length = nb
  have HEv : Hid (evC ⟨k, st, co, la, fi, l1, l2, b1, b2, hl, bl⟩ = #[.int .i64 (k : Nat), .int .i64 (st : Nat), .int .i64 (co : Nat), .int .i64 (la : Nat), .bool fi, .slice l1 nl l2, .slice b1 nb b2]) := Lib.hid (by simp only [evC, hll, hbl])
  clear hll hbl
  go_enter Tryz.func109, Tryz.ntmps109
  go_wp2
  have HN0 := Lib.hid (Blk.new w 43 #[.int .i64 (k : Nat), .int .i64 (st : Nat), .int .i64 (co : Nat), .int .i64 (la : Nat), .bool fi, .slice l1 nl l2, .slice b1 nb b2])
  have HB0 := Lib.hid ((Below.refl w.heap.size w).alloc (Nat.le_refl _) (.cells #[.int .i64 (k : Nat), .int .i64 (st : Nat), .int .i64 (co : Nat), .int .i64 (la : Nat), .bool fi, .slice l1 nl l2, .slice b1 nb b2] 43))
  have HZ0 := Lib.hid (show (w.alloc (.cells #[.int .i64 (k : Nat), .int .i64 (st : Nat), .int .i64 (co : Nat), .int .i64 (la : Nat), .bool fi, .slice l1 nl l2, .slice b1 nb b2] 43)).heap.size = w.heap.size + 1 by simp)
  generalize w.alloc (.cells #[.int .i64 (k : Nat), .int .i64 (st : Nat), .int .i64 (co : Nat), .int .i64 (la : Nat), .bool fi, .slice l1 nl l2, .slice b1 nb b2] 43) = W0 at *
  have HC0 := Lib.hid (HC.out.below HB0.out)
  have x0 : W0.cell? ⟨w.heap.size, 0, none⟩ = some (.int .i64 (k : Nat)) := HN0.out.cell 0
  have x1 : W0.cell? ⟨w.heap.size, 1, none⟩ = some (.int .i64 (st : Nat)) := HN0.out.cell 1
  have x2 : W0.cell? ⟨w.heap.size, 2, none⟩ = some (.int .i64 (co : Nat)) := HN0.out.cell 2
  have x3 : W0.cell? ⟨w.heap.size, 3, none⟩ = some (.int .i64 (la : Nat)) := HN0.out.cell 3
  have x4 : W0.cell? ⟨w.heap.size, 4, none⟩ = some (.bool fi) := HN0.out.cell 4
  have x5 : W0.cell? ⟨w.heap.size, 5, none⟩ = some (.slice l1 nl l2) := HN0.out.cell 5
  have x6 : W0.cell? ⟨w.heap.size, 6, none⟩ = some (.slice b1 nb b2) := HN0.out.cell 6
  have c7 : W0.cell? ⟨b, 7, none⟩ = some L.ev := HC0.out.blk.cell 7
  rw [HA.out] at c7
  have lb := HC0.out.blk.lt
  have lx := HN0.out.lt
  have HO1 := Lib.hid (show Cm.Ew evC 43 7 (W0.drew.alloc (.cells #[.int .i64 (k : Nat), .int .i64 (st : Nat), .int .i64 (co : Nat), .int .i64 (la : Nat), .bool fi, .slice l1 nl l2, .slice b1 nb b2] 43)) 0 (.slice A M.evs.length c) M.evs from HA.out ▸ HC0.out.p.ev.row.grown (show W0.grownBy _ none from ⟨rfl, rfl, rfl, by simp, fun k hk _ => Below.heap_alloc W0.drew _ k hk⟩) (Cm.own_or _))
  have HR1 : Hid (Cm.RS evC 7 (W0.drew.alloc (.cells #[.int .i64 (k : Nat), .int .i64 (st : Nat), .int .i64 (co : Nat), .int .i64 (la : Nat), .bool fi, .slice l1 nl l2, .slice b1 nb b2] 43)) (W0.drew.alloc (.cells #[.int .i64 (k : Nat), .int .i64 (st : Nat), .int .i64 (co : Nat), .int .i64 (la : Nat), .bool fi, .slice l1 nl l2, .slice b1 nb b2] 43)).heap.size (some ⟨W0.heap.size, 0, none⟩) 1 [⟨k, st, co, la, fi, l1, l2, b1, b2, hl, bl⟩]) := Lib.hid (by
    have h := (Cm.Ew.lit (k := 7) evC 43 (fun _ => rfl) W0.drew [⟨k, st, co, la, fi, l1, l2, b1, b2, hl, bl⟩] (by simp)).rs (fun _ => rfl) (by omega)
    have e1 : (Cm.flat evC [⟨k, st, co, la, fi, l1, l2, b1, b2, hl, bl⟩]).toArray = #[.int .i64 (k : Nat), .int .i64 (st : Nat), .int .i64 (co : Nat), .int .i64 (la : Nat), .bool fi, .slice l1 nl l2, .slice b1 nb b2] := by
      have e2 : Cm.flat evC [⟨k, st, co, la, fi, l1, l2, b1, b2, hl, bl⟩] = (evC ⟨k, st, co, la, fi, l1, l2, b1, b2, hl, bl⟩).toList := by simp [Cm.flat]
      rw [e2, HEv.out]
    rw [e1] at h
    exact h)
  have HLn := Lib.hid (show M.evs.length + 1 ≤ 1000000 by have := HN.out; omega)
  go_region_law
    ((refine Cm.step_app_e elEv _ (by rfl) (.tmp 8) (.tmp 10) (by rfl) 0 (.slice A M.evs.length c) M.evs (by rfl) HO1.out _ (some ⟨W0.heap.size, 0, none⟩) 1 1 [⟨k, st, co, la, fi, l1, l2, b1, b2, hl, bl⟩] (by rfl) HR1.out HLn.out (Nat.zero_le _) ?_
      intro A8 c8 w8 hown hg hv
      have HG8 := Lib.hid hg
      have HO8 := Lib.hid hown
      have HV8 := Lib.hid hv
      have hP8 := (HC0.out.drew.alloc (.cells #[.int .i64 (k : Nat), .int .i64 (st : Nat), .int .i64 (co : Nat), .int .i64 (la : Nat), .bool fi, .slice l1 nl l2, .slice b1 nb b2] 43)).blk.grown hg (fun e => by have h1 := HC0.out.p.ev.own b (HA.out ▸ e.symm); rw [HC0.out.tb] at h1; cases h1)
      have hf8 : w8.frozen? ⟨b, 7, none⟩ = false := hP8.frozen 7
      have hc8 : w8.cell? ⟨b, 7, none⟩ = some L.ev := hP8.cell 7
      rw [HA.out] at hc8
      clear hP8 hown hg hv))
  all_goals
    go_end0
    obtain ⟨ow', L', h1, h2, h3⟩ := HC.out.told (wA := W0.drew.alloc (.cells #[.int .i64 (k : Nat), .int .i64 (st : Nat), .int .i64 (co : Nat), .int .i64 (la : Nat), .bool fi, .slice l1 nl l2, .slice b1 nb b2] 43)) (below_drewN HB0.out 1 |>.alloc (by have := HB0.out.size; exact this) _) HO8.out (HA.out ▸ HG8.out) (HA.out ▸ HV8.out) HE.out
    rw [HM.out] at h1
    exact ⟨ow', L', rfl, h1, h2, h3⟩
theorem tell_any (w : World) (ow : Nat → Tg) (b : Nat) (M : Cv) (L : Lay) (e : EvV) (h : CN w ow b M L) (he : EvOk w ow e) (hn : M.evs.length ≤ 900000) :
    Calls Tryz.prog 109 #[.pointer (some ⟨b, 0, none⟩), .agg (evC e)] w (CPost w ow b { M with evs := M.evs ++ [e] } (.tuple #[])) :=
  (tell_anyL w ow b M L e h he hn).mono fun _ _ h => h.cp
set_option maxHeartbeats 1000000 in
set_option maxRecDepth 100000 in
/-- The code, and whether it is dead. -/
theorem dead_any (w : World) (ow : Nat → Tg) (b : Nat) (M : Cv) (L : Lay) (h : CN w ow b M L) :
    Calls Tryz.prog 16 #[.pointer (some ⟨b, 0, none⟩)] w fun e w' => e = .returned (.tuple #[.int .i64 (M.code : Nat), .bool M.dead]) ∧ ∃ n, w' = w.drewN n := by
  have c20 : w.cell? ⟨b, 20, none⟩ = some (.int .i64 (M.code : Nat)) := h.blk.cell 20
  have c19 : w.cell? ⟨b, 19, none⟩ = some (.bool M.dead) := h.blk.cell 19
  clear h
  generalize M.code = co at *
  generalize M.dead = de at *
  go_enter Tryz.func16, Tryz.ntmps16
  go_wp2_with fail
  go_quiet (fail)
  go_wp2
  go_ret2
  exact ⟨rfl, _, rfl⟩
set_option maxHeartbeats 1000000 in
set_option maxRecDepth 100000 in
theorem known_any (w : World) (ow : Nat → Tg) (b : Nat) (M : Cv) (L : Lay) (id : Nat) (h : CN w ow b M L) :
    Calls Tryz.prog 111 #[.pointer (some ⟨b, 0, none⟩), .int .i64 (id : Nat)] w fun e w' => e = .returned (.bool (decide (id % 2 = 1 ∧ id ≤ M.last))) ∧ w' = w := by
  have c14 : w.cell? ⟨b, 14, none⟩ = some (.int .i64 (M.last : Nat)) := h.blk.cell 14
  clear h
  generalize M.last = la at *
  obtain ⟨q, hq⟩ : ∃ q, id % 2 = q := ⟨_, rfl⟩
  have hm : ((id : Int).tmod 2) = (q : Int) := by rw [← hq]; rfl
  have hm' : ((id : Int) % 2) = (q : Int) := by rw [← hq]; rfl
  rw [hq]
  by_cases h1 : q = 1
  · subst h1
    clear hq
    go_enter Tryz.func111, Tryz.ntmps111
    go_wp2
    go_ret
    exact ⟨by simp, rfl⟩
  · have h1' : ((q : Int) == 1) = false := by simp; omega
    have h1'' : ¬ ((q : Int) = 1) := by omega
    have hd : decide (q = 1 ∧ id ≤ la) = false := by simp [h1]
    rw [hd]
    clear hq h1 hd
    go_enter Tryz.func111, Tryz.ntmps111
    go_wp2
    go_ret
    exact ⟨rfl, rfl⟩
end Go.Proofs.YtkpppjhbmnfmkaaGreatDoor
end

section
namespace Go.Proofs.YtkpppjhbmnfmkaaGreatDoor
open Go.RowKit Go.Own Go.Own.Im Go.Own.Cx Go.Own.Fr
theorem infC_away (n c : Nat) : infC { typ := 7, last := n, code := c } (.slice none 0 0) (.slice none 0 0) = #[.int .i64 7, .int .i64 0, .int .i64 0, .bool false, .bool false, .bool false, .bool false, .bool false, .bool false, .int .i64 0, .int .i64 0, .int .i64 0, .int .i64 (c : Nat), .int .i64 (n : Nat), .int .i64 0, .int .i64 0, .slice none 0 0, .slice none 0 0] := rfl
theorem flg_away (n c : Nat) : flg { typ := 7, last := n, code := c } = 0 := by simp [flg]
theorem pay_away (n c : Nat) : pay { typ := 7, last := n, code := c } = be n 4 ++ be c 4 := by simp [pay]
/-- The last stream that an end names when it says good bye. -/
def lastB (M : Cv) : Nat := if M.side = 2 then M.last else 0
set_option maxHeartbeats 1000000 in
set_option maxRecDepth 100000 in
theorem bound_any (w : World) (ow : Nat → Tg) (b : Nat) (M : Cv) (L : Lay) (c : Nat) (h : CN w ow b M L) (hc : c < 4294967296) (hl : M.last ≤ 2147483647) (ho : M.out.length ≤ 1000000000) :
    Calls Tryz.prog 112 #[.pointer (some ⟨b, 0, none⟩), .int .i64 (c : Nat)] w (CPost w ow b { M with out := M.out ++ frameB 7 0 0 (be (lastB M) 4 ++ be c 4) } (.tuple #[])) := by
  have c0 : w.cell? ⟨b, 0, none⟩ = some (.int .i64 (M.side : Nat)) := h.blk.cell 0
  have c14 : w.cell? ⟨b, 14, none⟩ = some (.int .i64 (M.last : Nat)) := h.blk.cell 14
  have hlb : lastB M ≤ 2147483647 := by unfold lastB; split <;> omega
  have HP := put_any w ow b M L _ _ h rfl (bld_away w (lastB M) c hlb hc) ho
  rw [infC_away, flg_away, pay_away] at HP
  have HP := Lib.hid HP
  clear h ho hc hlb
  by_cases hs : M.side = 2
  · rw [show lastB M = M.last by unfold lastB; rw [if_pos hs]] at HP ⊢
    rw [hs] at c0
    clear hs hl
    generalize M.last = la at *
    go_enter Tryz.func112, Tryz.ntmps112
    go_wp2_with fail
    refine HP.out.mono ?_
    intro e w' hp
    obtain rfl := hp.ret
    have HQ := Lib.hid hp
    clear hp
    go_wp2
    go_end0
    exact HQ.out
  · rw [show lastB M = 0 by unfold lastB; rw [if_neg hs]] at HP ⊢
    have hs1 : ((M.side : Int) == 2) = false := by simp; omega
    have hs2 : ¬ (M.side : Int) = 2 := by omega
    clear hs hl c14
    generalize M.side = sd at *
    go_enter Tryz.func112, Tryz.ntmps112
    go_wp2_with fail
    refine HP.out.mono ?_
    intro e w' hp
    obtain rfl := hp.ret
    have HQ := Lib.hid hp
    clear hp
    go_wp2
    go_end0
    exact HQ.out
end Go.Proofs.YtkpppjhbmnfmkaaGreatDoor
end
