/-
  What a step of an end does, case by case; what a run of steps does; the package-level variables that it reads; the events let go. No program text is walked here.
  Contracts: (*Conn).faulty of a fault of the connection; the deferred function of a step.
  Contracts: the deferred function of a step: where nothing has happened; where a frame was given up with.
  Contracts: (*Conn).step: a byte of the preface; too few bytes.
-/
import Derived.Test.YtkpppjhbmnfmkaaGreatDoorJj
import Derived.Test.YtkpppjhbmnfmkaaGreatDoorJn
import Derived.LaidEql
import Derived.Test.YtkpppjhbmnfmkaaGreatDoorJh
import Derived.BigQuiet
import Derived.Recover
import Derived.Defers
import Derived.Test.YtkpppjhbmnfmkaaGreatDoorJg
import Derived.Test.YtkpppjhbmnfmkaaGreatDoorFg
import Derived.Deep.RegionHeld3
set_option linter.unusedSimpArgs false
set_option linter.unusedVariables false
section
namespace Go.Proofs.YtkpppjhbmnfmkaaGreatDoor
open Go.RowKit Go.Own Go.Own.Im Go.Own.Cx
/-- The two errors of frame.Get that are told apart. -/
structure EndsF (w : World) (ow : Nat → Tg) (a c : Addr) : Prop where
  room : 20 ≤ w.heap.size
  no : ∀ g, g < 20 → ow g = .no
  ne : a ≠ c
  e : w.cell? ⟨10, 0, none⟩ = some (.iface 327 (.pointer (some a)))
  l : w.cell? ⟨5, 0, none⟩ = some (.iface 327 (.pointer (some c)))
  ba : ∃ cs t, w.heap[a.block]? = some (.cells cs t (0, 0))
  bc : ∃ cs t, w.heap[c.block]? = some (.cells cs t (0, 0))
  na : ow a.block = .no
  nc : ow c.block = .no
/-- The package-level variables that a step reads. -/
structure Env (w : World) (ow : Nat → Tg) : Prop where
  room : 20 ≤ w.heap.size
  no : ∀ g, g < 20 → ow g = .no
  env : ∃ e1 e2 e3, H6.EnvH w e1 e2 e3
  ends : ∃ a c, EndsF w ow a c
section
variable {w w' : World} {ow ow' : Nat → Tg} {b : Nat} {M : Cv} {L : Lay}
theorem EndsF.fr {a c : Addr} (h : EndsF w ow a c) (f : Fr w ow w' ow') : EndsF w' ow' a c := by
  have hk : ∀ i, i < 20 → w'.heap[i]? = w.heap[i]? := fun i hi => f.keep i (by have := h.room; omega) (h.no i hi)
  have hz : 20 ≤ w'.heap.size := Nat.le_trans h.room f.size
  obtain ⟨ca, ta, ha⟩ := h.ba
  obtain ⟨cc, tc, hc⟩ := h.bc
  have hla := (Array.getElem?_eq_some_iff.1 ha).1
  have hlc := (Array.getElem?_eq_some_iff.1 hc).1
  exact ⟨hz, fun g hg => f.no g (by have := h.room; omega) (h.no g hg), h.ne, (World.cell?_of_block (a := ⟨10, 0, none⟩) (hk _ (by decide))).trans h.e, (World.cell?_of_block (a := ⟨5, 0, none⟩) (hk _ (by decide))).trans h.l,
    ⟨ca, ta, (f.keep _ hla h.na).trans ha⟩, ⟨cc, tc, (f.keep _ hlc h.nc).trans hc⟩, f.no _ hla h.na, f.no _ hlc h.nc⟩
theorem EndsF.eql {a c : Addr} (h : EndsF w ow a c) : (binOp .eql 28 (.iface 327 (.pointer (some a))) (.iface 327 (.pointer (some c)))).run Tryz.prog w = .ok (.bool false) w := by
  obtain ⟨ca, ta, ha⟩ := h.ba
  obtain ⟨cc, tc, hc⟩ := h.bc
  obtain ⟨i, hi, hcmp⟩ := Option.map_eq_some_iff.1 (show (Tryz.prog.info? 327).map (·.comparable) = some true by kernel_rfl)
  obtain ⟨j, hj, hjs⟩ := Option.map_eq_some_iff.1 (show (Tryz.prog.info? 329).map (·.size) = some 1 by kernel_rfl)
  exact run_eql_iface_ptr_other (P := Tryz.prog) w Tryz.underlying28 Tryz.underlying327 hi hcmp hj (by rw [hjs]; decide) h.ne ha hc
theorem Env.fr (h : Env w ow) (f : Fr w ow w' ow') : Env w' ow' := by
  have hk : ∀ i, i < 20 → w'.heap[i]? = w.heap[i]? := fun i hi => f.keep i (by have := h.room; omega) (h.no i hi)
  have hz : 20 ≤ w'.heap.size := Nat.le_trans h.room f.size
  obtain ⟨e1, e2, e3, he⟩ := h.env
  obtain ⟨a, c, hf⟩ := h.ends
  exact ⟨hz, fun g hg => f.no g (by have := h.room; omega) (h.no g hg), ⟨e1, e2, e3, he.kept hk hz⟩, a, c, hf.fr f⟩
/-- A step of an end in the state M. -/
def StepT (M : Cv) (more : Bool) (S : Cv → Prop) : Prop := ∀ (w : World) (ow : Nat → Tg) (b : Nat) (L : Lay), Env w ow → CN w ow b M L →
  Calls Tryz.prog 40 #[.pointer (some ⟨b, 0, none⟩)] w (CPostS w ow b S (.bool more))
/-- Steps, one behind the other, until one wants more bytes, or the end is dead. -/
inductive Runs : Nat → Cv → (Cv → Prop) → Prop
  | dead {n : Nat} {M : Cv} {S : Cv → Prop} : M.dead = true → S M → Runs n M S
  | stop {n : Nat} {M : Cv} {S : Cv → Prop} : M.dead = false → StepT M false S → Runs n M S
  | more {n : Nat} {M : Cv} {S S' : Cv → Prop} : M.dead = false → StepT M true S' → (∀ M1, S' M1 → Runs n M1 S) → Runs (n + 1) M S
/-- The events are let go. -/
def offE (ow : Nat → Tg) : Nat → Tg := fun j => if ow j = .ev ∨ ow j = .evd then .no else ow j
theorem offE_other {ow : Nat → Tg} {j : Nat} (h1 : ow j ≠ .ev) (h2 : ow j ≠ .evd) : offE ow j = ow j := by
  unfold offE
  rw [if_neg]
  rintro (e | e)
  · exact h1 e
  · exact h2 e
theorem CN.unevs (h : CN w ow b M L) : CN (w.setCell ⟨b, 7, none⟩ (.slice none 0 0)) (offE ow) b { M with evs := [] } { L with ev := .slice none 0 0 } ∧ Fr w ow (w.setCell ⟨b, 7, none⟩ (.slice none 0 0)) (offE ow) := by
  have hsz : (w.setCell ⟨b, 7, none⟩ (.slice none 0 0)).heap.size = w.heap.size := by simp [World.setCell]
  have k : Kp (fun x => x = .ev ∨ x = .evd) w ow w (offE ow) := ⟨Nat.le_refl _, fun g _ ht _ => ⟨rfl, offE_other (fun e => ht (.inl e)) (fun e => ht (.inr e))⟩⟩
  have hbk := h.blkK k (by decide)
  have hcp : CP w (offE ow) M.fed M.out [] M.inw M.outw M.strs M.list { L with ev := .slice none 0 0 } :=
    ⟨h.p.fedK k (by decide), h.p.outK k (by decide), ⟨Cm.Ew.nil _ _ _ _ _, (fun g e => by cases e), (fun e he => by cases he)⟩, (h.p.inwK k (by decide)).1, (h.p.inwK k (by decide)).2, (h.p.outwK k (by decide)).1, (h.p.outwK k (by decide)).2, (h.p.mapK k (by decide)).1, (h.p.mapK k (by decide)).2,
      fun s hs => h.p.strK k s hs (by intro j; simp), h.p.lstK k (by decide) (by decide), h.p.encK k (by decide), h.p.decK k (by decide)⟩
  refine ⟨⟨hbk.1.put 7 _, hbk.2, hcp.keep (by omega) fun g _ hn _ => ⟨Below.heap_setCell w _ _ g (fun e => hn (by rw [e]; exact hbk.2)), rfl⟩, fun g hge => ?_⟩, ⟨rfl, rfl, rfl, by omega, fun g hlt ho => Below.heap_setCell w _ _ g (fun e => by rw [e, h.tb] at ho; cases ho), fun g hlt ho => ?_⟩⟩
  · rw [offE_other (by rw [h.new g (by omega)]; decide) (by rw [h.new g (by omega)]; decide)]
    exact h.new g (by omega)
  · rw [offE_other (by rw [ho]; decide) (by rw [ho]; decide)]
    exact ho
/-- An event that was handed out, as it reads. -/
structure EvR (w : World) (ow : Nat → Tg) (e : EvV) : Prop where
  lst : e.l.length ≤ e.lc ∧ Cm.RS hdrC 3 w w.heap.size e.la e.l.length e.l ∧ (0 < e.l.length → ∀ ad, e.la = some ad → ow ad.block = .no)
  byt : e.by_.length ≤ e.bc ∧ Rd w w.heap.size e.ba e.by_.length e.by_ ∧ (0 < e.by_.length → ∀ ad, e.ba = some ad → ow ad.block = .no)
theorem EvOk.handed {e : EvV} (h : EvOk w ow e) (hb : ow b = .cn) (v : Value) : EvR (w.setCell ⟨b, 7, none⟩ v) (offE ow) e := by
  have hsz : (w.setCell ⟨b, 7, none⟩ v).heap.size = w.heap.size := by simp [World.setCell]
  have hoff : ∀ j, ow j = .evd → offE ow j = .no := fun j hj => if_pos (.inr hj)
  refine ⟨⟨h.lst.1, ?_, fun hp ad ha => hoff _ (h.lst.2.2 hp ad ha)⟩, ⟨h.byt.1, ?_, fun hp ad ha => hoff _ (h.byt.2.2 hp ad ha)⟩⟩
  · rw [hsz]
    rcases Nat.eq_zero_or_pos e.l.length with h0 | h0
    · have : e.l = [] := List.eq_nil_of_length_eq_zero h0
      rw [this]
      have h1 := h.lst.2.1.1
      exact ⟨by simp, fun j x hx => by cases hx⟩
    · exact h.lst.2.1.setCell (fun ad ha e2 => by have := h.lst.2.2 h0 ad ha; rw [e2, hb] at this; cases this) _
  · rw [hsz]
    refine ⟨h.byt.2.1.1, fun hp => ?_⟩
    obtain ⟨ad, ha, hlt, hc⟩ := h.byt.2.1.2 hp
    refine ⟨ad, ha, hlt, fun j hj => ?_⟩
    have hne : ad.block ≠ b := fun e2 => by have := h.byt.2.2 hp ad ha; rw [e2, hb] at this; cases this
    exact (World.cell?_of_block (a := ad.add j) (by rw [add_block]; exact Below.heap_setCell w _ _ _ hne)).trans (hc j hj)
/-- What Feed leaves. -/
def FeedPost (w : World) (ow : Nat → Tg) (b : Nat) (S : Cv → Prop) (e : Ending) (w' : World) : Prop :=
  ∃ M' A c ow' L', S M' ∧ e = .returned (.slice A M'.evs.length c) ∧ M'.evs.length ≤ c ∧ CN w' ow' b { M' with evs := [] } L' ∧ Fr w ow w' ow' ∧ Cm.RS evC 7 w' w'.heap.size A M'.evs.length M'.evs ∧
    (0 < M'.evs.length → ∀ ad, A = some ad → ow' ad.block = .no) ∧ ∀ x ∈ M'.evs, EvR w' ow' x
theorem CN.handed (h : CN w ow b M L) : ∃ A c, L.ev = .slice A M.evs.length c ∧ ∀ w0 ow0, Fr w0 ow0 w ow → ∀ S : Cv → Prop, S M → FeedPost w0 ow0 b S (.returned (.slice A M.evs.length c)) (w.setCell ⟨b, 7, none⟩ (.slice none 0 0)) := by
  obtain ⟨A, c, hL, hle, _⟩ := h.p.ev.row.form
  refine ⟨A, c, hL, fun w0 ow0 hf S hS => ?_⟩
  have hu := h.unevs
  have hsz : (w.setCell ⟨b, 7, none⟩ (.slice none 0 0)).heap.size = w.heap.size := by simp [World.setCell]
  have hrow := h.p.ev.row
  rw [hL] at hrow
  have hown : ∀ ad, A = some ad → 0 < M.evs.length → ow ad.block = .ev := fun ad ha hp => by
    refine h.p.ev.own _ ?_
    rcases hrow.2 with ⟨e, h0⟩ | ⟨g, cap, cur, e, _⟩
    · omega
    · rw [hL, e]
      have e1 := e
      injection e1 with e1
      rw [ha] at e1
      injection e1 with e1
      rw [e1]; rfl
  refine ⟨M, A, c, _, _, hS, rfl, hle, hu.1, hf.trans hu.2, ?_, fun hp ad ha => if_pos (.inl (hown ad ha hp)), fun x hx => (h.p.ev.each x hx).handed h.tb _⟩
  rw [hsz]
  have hrs := hrow.rs (fun _ => rfl) (by decide)
  rcases Nat.eq_zero_or_pos M.evs.length with h0 | h0
  · have : M.evs = [] := List.eq_nil_of_length_eq_zero h0
    rw [this]
    exact ⟨by simp, fun j x hx => by cases hx⟩
  · exact hrs.setCell (fun ad ha e2 => by have := hown ad ha h0; rw [e2, h.tb] at this; cases this) _
end
end Go.Proofs.YtkpppjhbmnfmkaaGreatDoor
end

section
namespace Go.Proofs.YtkpppjhbmnfmkaaGreatDoor
open Go.RowKit Go.Own Go.Own.Im Go.Own.Cx Go.Own.Fr
/-- The end is dead. -/
def deadM (M : Cv) (c : Nat) : Cv := { M with fed := [], list := none, dead := true, code := c, strs := [], out := M.out ++ frameB 7 0 0 (be (lastB M) 4 ++ be c 4), evs := M.evs ++ [{ kind := 8, code := c }] }
section
variable {w w' : World} {ow ow' : Nat → Tg} {b : Nat} {M : Cv} {L : Lay}
theorem CN.dies (h : CN w ow b M L) : CN (w.setCell ⟨b, 19, none⟩ (.bool true)) ow b { M with dead := true } L ∧ Fr w ow (w.setCell ⟨b, 19, none⟩ (.bool true)) ow := h.cell 19 _ rfl h.p
theorem CN.codes (h : CN w ow b M L) (c : Nat) : CN (w.setCell ⟨b, 20, none⟩ (.int .i64 (c : Nat))) ow b { M with code := c } L ∧ Fr w ow (w.setCell ⟨b, 20, none⟩ (.int .i64 (c : Nat))) ow := h.cell 20 _ rfl h.p
theorem CN.unfeds (h : CN w ow b M L) : CN (w.setCell ⟨b, 3, none⟩ (.slice none 0 0)) ow b { M with fed := [] } { L with fed := .slice none 0 0 } ∧ Fr w ow (w.setCell ⟨b, 3, none⟩ (.slice none 0 0)) ow :=
  h.cell (M' := { M with fed := [] }) (L' := { L with fed := .slice none 0 0 }) 3 _ rfl ⟨Oz.nil _ _, h.p.out, h.p.ev, h.p.inw, h.p.ti, h.p.outw, h.p.to, h.p.map, h.p.tm, h.p.strs, h.p.lst, h.p.enc, h.p.dec⟩
/-- Some bytes of what is fed have been read. -/
theorem CN.cuts (h : CN w ow b M L) {A A' : Option Addr} {n c k : Nat} (hL : L.fed = .slice A n c) (hk : k ≤ n) (hA : (if c = k then A else A.map fun x => x.add k) = A') :
    CN (w.setCell ⟨b, 3, none⟩ (.slice A' (n - k) (c - k))) ow b { M with fed := M.fed.drop k } { L with fed := .slice A' (n - k) (c - k) } ∧ Fr w ow (w.setCell ⟨b, 3, none⟩ (.slice A' (n - k) (c - k))) ow :=
  have hz := h.p.fed
  h.cell (M' := { M with fed := M.fed.drop k }) (L' := { L with fed := .slice A' (n - k) (c - k) }) 3 _ rfl ⟨hA ▸ (hL ▸ hz).cut hk, h.p.out, h.p.ev, h.p.inw, h.p.ti, h.p.outw, h.p.to, h.p.map, h.p.tm, h.p.strs, h.p.lst, h.p.enc, h.p.dec⟩
theorem CN.unlist0 (h : CN w ow b M L) : CN (w.setCell ⟨b, 16, none⟩ (.pointer none)) ow b { M with list := none } { L with list := .pointer none } ∧ Fr w ow (w.setCell ⟨b, 16, none⟩ (.pointer none)) ow :=
  h.cell (M' := { M with list := none }) (L' := { L with list := .pointer none }) 16 _ rfl ⟨h.p.fed, h.p.out, h.p.ev, h.p.inw, h.p.ti, h.p.outw, h.p.to, h.p.map, h.p.tm, h.p.strs, rfl, h.p.enc, h.p.dec⟩
set_option maxRecDepth 100000 in
theorem CN.clears (h : CN w ow b M L) (ty : TypeId) : ∃ w', (Builtin.clear_ #[74] ty #[.map (some L.mb)]).run Tryz.prog w = .ok (.tuple #[]) w' ∧ CN w' ow b { M with strs := [] } L ∧ Fr w ow w' ow := by
  obtain ⟨w', hrun, hm, hg, hsz⟩ := h.p.map.clear Tryz.underlying74 ty
  have k := Kp.row h hg (t := .map) (fun g e => by injection e with e; rw [← e]; exact h.p.tm)
  have hbk := h.blkK k (by decide)
  refine ⟨w', hrun, ⟨hbk.1, hbk.2, ⟨h.p.fedK k (by decide), h.p.outK k (by decide), h.p.evK k (by decide) (by decide), (h.p.inwK k (by decide)).1, (h.p.inwK k (by decide)).2, (h.p.outwK k (by decide)).1, (h.p.outwK k (by decide)).2,
    hm, h.p.tm, (fun s hs => by cases hs), h.p.lstK k (by decide) (by decide), h.p.encK k (by decide), h.p.decK k (by decide)⟩, fun g hge => h.new g (by omega)⟩, Fr.grown hg fun g e => by injection e with e; rw [← e, h.p.tm]; decide⟩
end
set_option maxHeartbeats 4000000 in
set_option maxRecDepth 100000 in
theorem faulty_dead (w : World) (ow : Nat → Tg) (b : Nat) (M : Cv) (L : Lay) (c : Nat) (h : CN w ow b M L) (hc : c < 4294967296) (hl : M.last ≤ 2147483647) (ho : M.out.length ≤ 1000000000) (hn : M.evs.length ≤ 900000) :
    Calls Tryz.prog 69 #[.pointer (some ⟨b, 0, none⟩), .agg #[.int .i64 (c : Nat), .int .i64 0]] w (CPost w ow b (deadM M c) (.tuple #[])) := by
  have HX := Lib.hid (Blk.new w 143 #[.int .i64 (c : Nat), .int .i64 0])
  have HB0 := Lib.hid ((Below.refl w.heap.size w).alloc (Nat.le_refl _) (.cells #[.int .i64 (c : Nat), .int .i64 0] 143))
  have HC := Lib.hid h
  have HH := Lib.hid (show _ ∧ _ ∧ _ ∧ _ from ⟨hc, hl, ho, hn⟩)
  have HNo := Lib.hid (h.new w.heap.size (Nat.le_refl _))
  clear h hc hl ho hn
  go_enter Tryz.func69, Tryz.ntmps69
  go_upto_region 1 with fail
  generalize w.alloc (.cells #[.int .i64 (c : Nat), .int .i64 0] 143) = W0 at *
  have HC0 := Lib.hid (HC.out.below HB0.out)
  have x0 : W0.cell? ⟨w.heap.size, 0, none⟩ = some (.int .i64 (c : Nat)) := HX.out.cell 0
  have x1 : W0.cell? ⟨w.heap.size, 1, none⟩ = some (.int .i64 0) := HX.out.cell 1
  have c15 : W0.cell? ⟨b, 15, none⟩ = some (.map (some L.mb)) := HC0.out.blk.cell 15
  have hlk := fun n => look_str (HC0.out.drewN n) 0 (by decide)
  obtain ⟨v, hv⟩ : ∃ v, atI (M.strs.map (·.id)) (sptr L) (.pointer none) 0 = v := ⟨_, rfl⟩
  rw [hv] at hlk
  clear hv
  go_quiet (fail)
  have HBd := Lib.hid (fun n => bound_any (W0.drewN n) ow b M L c (HC0.out.drewN n) HH.out.1 HH.out.2.1 HH.out.2.2.1)
  have c0' := x0
  go_upto_region 9 with (first
    | (go_at_call 112
       refine (HBd.out _).mono ?_
       intro e w2 hp
       obtain rfl := hp.ret
       obtain ⟨ow2, L2, _, hc2, hf2⟩ := hp
       have HC2 := Lib.hid hc2
       have HF2 := Lib.hid ((Fr.drewN W0 ow _).trans hf2)
       have y0 : w2.cell? ⟨w.heap.size, 0, none⟩ = some (.int .i64 (c : Nat)) := (HF2.out.blk HX.out HNo.out).cell 0
       clear hc2 hf2)
    | fail)
  have HT := tell_anyL w2 ow2 b _ L2 { kind := 8, code := c } HC2.out (evOk_plain w2 ow2 8 0 c 0 false) HH.out.2.2.2
  rw [evC_plain] at HT
  refine HT.mono ?_
  intro e w3 hp
  obtain rfl := hp.cp.ret
  obtain ⟨ow3, L3, _, hc3, hf3, _⟩ := hp
  have HC3 := Lib.hid hc3
  have HF3 := Lib.hid (HF2.out.trans hf3)
  have z0 : w3.cell? ⟨w.heap.size, 0, none⟩ = some (.int .i64 (c : Nat)) := (HF3.out.blk HX.out HNo.out).cell 0
  clear hc3 hf3 HT
  go_upto_region 9 with fail
  have g19 := HC3.out.blk.frozen 19
  have g20 := HC3.out.blk.frozen 20
  have g3 := HC3.out.blk.frozen 3
  have g16 := HC3.out.blk.frozen 16
  have k19 : w3.cell? ⟨b, 19, none⟩ = some (.bool M.dead) := HC3.out.blk.cell 19
  have k20 : w3.cell? ⟨b, 20, none⟩ = some (.int .i64 (M.code : Nat)) := HC3.out.blk.cell 20
  have k3 : w3.cell? ⟨b, 3, none⟩ = some L3.fed := HC3.out.blk.cell 3
  have k16 : w3.cell? ⟨b, 16, none⟩ = some L3.list := HC3.out.blk.cell 16
  clear c0' x0 x1 c15 hlk y0
  go_region
  all_goals
    have a1 := HC3.out.dies
    have a2 := a1.1.codes c
    have a3 := a2.1.unfeds
    have a4 := a3.1.unlist0
    have HC4 := Lib.hid (show CN (((((w3.setCell ⟨b, 19, none⟩ (.bool true)).setCell ⟨b, 20, none⟩ (.int .i64 (c : Nat))).setCell ⟨b, 3, none⟩ (.slice none 0 0)).setCell ⟨b, 16, none⟩ (.pointer none)).drew) ow3 b _ _ from a4.1.drew)
    have HF4 := Lib.hid ((((HF3.out.trans a1.2).trans a2.2).trans a3.2).trans a4.2).drew
    clear a1 a2 a3 a4 g19 g20 g3 g16 k19 k20 k3 k16 z0
    generalize ((((w3.setCell ⟨b, 19, none⟩ (.bool true)).setCell ⟨b, 20, none⟩ (.int .i64 (c : Nat))).setCell ⟨b, 3, none⟩ (.slice none 0 0)).setCell ⟨b, 16, none⟩ (.pointer none)).drew = W4 at *
    have k15 : W4.cell? ⟨b, 15, none⟩ = some (.map (some L3.mb)) := HC4.out.blk.cell 15
    obtain ⟨w5, hcl, hc5, hf5⟩ := HC4.out.clears 0
    go_wp2
    go_end0
    exact ⟨ow3, _, rfl, hc5, (Fr.below HB0.out ow).trans (HF4.out.trans hf5)⟩
end Go.Proofs.YtkpppjhbmnfmkaaGreatDoor
end

section
namespace Go.Proofs.YtkpppjhbmnfmkaaGreatDoor
open Go.RowKit Go.Own Go.Own.Im Go.Own.Cx Go.Own.Fr
set_option maxHeartbeats 1000000 in
/-- Nothing has happened. -/
theorem step1_idle (a b : Addr) (w : World) :
    CallsD Tryz.prog 68 #[.pointer (some a), .pointer (some b)] .returning w fun e u' w' => e = .returned (.tuple #[]) ∧ u' = .returning ∧ w' = w := by
  refine callsD_of_wpS Tryz.func68 rfl fun c₀ cs hu => ?_
  apply wpS_seq
  apply wpS_region
  simp [wpOpsS, go_sem, recoverD, hu, Tryz.ntmps68, Exit.thenS]
  apply wpS_seq
  apply wpS_region
  simp [wpOpsS, go_sem, Exit.thenS]
  refine wpS_cond (t := false) (by simp [Act.eval, Array.replicate]) ?_
  simp only [Bool.false_eq_true, if_false]
  refine wpS_of_wp (wp_skip ?_)
  cases c₀
  simp_all [bodyPostS, results, Tryz.results68]
theorem assert_fault (v : Value) (w : World) : (Instr.typeAssert (.iface 143 v) 20 143 true).run Tryz.prog w = .ok (.tuple #[v, .bool true]) w := by
  simp [Instr.typeAssert, go_sem]
set_option maxHeartbeats 1000000 in
set_option maxRecDepth 100000 in
/-- A frame was given up with. -/
theorem step1_fault (w : World) (ow : Nat → Tg) (b gm gc : Nat) (M : Cv) (S : Cv → Prop) (L : Lay) (c s : Nat) (x : Bool) (h : CN w ow b M L) (hm : Blk w gm 4 #[.bool x]) (hc : Blk w gc 26 #[.pointer (some ⟨b, 0, none⟩)]) (hmo : ow gm = .no) (hne : gc ≠ gm)
    (hf : ∀ W, CN W ow b M L → Fr (w.setCell ⟨gm, 0, none⟩ (.bool true)) ow W ow → Calls Tryz.prog 69 #[.pointer (some ⟨b, 0, none⟩), .agg #[.int .i64 (c : Nat), .int .i64 (s : Nat)]] W (CPostS W ow b S (.tuple #[]))) :
    CallsD Tryz.prog 68 #[.pointer (some ⟨gm, 0, none⟩), .pointer (some ⟨gc, 0, none⟩)] (.panicking (fltE c s)) w fun e u' w' =>
      e = .returned (.tuple #[]) ∧ u' = .panicking [{ v := .iface 143 (.agg #[.int .i64 (c : Nat), .int .i64 (s : Nat)]), recovered := true }] ∧ CPostS (w.setCell ⟨gm, 0, none⟩ (.bool true)) ow b S (.tuple #[]) e w' := by
  have hcm : w.cell? ⟨gm, 0, none⟩ = some (.bool x) := hm.cell 0
  have hfm := hm.frozen 0
  have hcc : w.cell? ⟨gc, 0, none⟩ = some (.pointer (some ⟨b, 0, none⟩)) := hc.cell 0
  have hml := hm.lt
  have HF := Lib.hid hf
  have HC := Lib.hid h
  have hta := assert_fault (.agg #[.int .i64 (c : Nat), .int .i64 (s : Nat)])
  clear h hf
  refine callsD_of_wpS Tryz.func68 rfl fun c₀ cs hu => ?_
  change Code.wpS _ _ _ { tmps := #[.pointer (some ⟨gm, 0, none⟩), .pointer (some ⟨gc, 0, none⟩), undef, undef, undef, undef, undef, undef, undef, undef, undef, undef, undef, undef, undef, undef, undef, undef, undef], defers := [] } _ _
  apply wpS_seq
  apply wpS_region
  simp [wpOpsS, go_sem, recoverD, hu, fltE, Tryz.ntmps68, Exit.thenS]
  apply wpS_seq
  apply wpS_region
  simp [wpOpsS, go_sem, Exit.thenS]
  refine wpS_cond (t := true) (by simp [Act.eval, Array.replicate]) ?_
  simp only [if_true]
  refine wpS_of_wp ?_
  go_upto_region 5 with fail
  have hb1 := HC.out.blk.lt
  have hgm : gm ≠ w.heap.size := by omega
  have hcl := hc.lt
  have hgb : gm ≠ b := fun e => by have h1 := hmo; rw [e, HC.out.tb] at h1; cases h1
  have HX := Lib.hid (Blk.new w 143 #[.int .i64 (c : Nat), .int .i64 (s : Nat)])
  have HM := Lib.hid (hm.alloc (.cells #[.int .i64 (c : Nat), .int .i64 (s : Nat)] 143))
  have HCc := Lib.hid (hc.alloc (.cells #[.int .i64 (c : Nat), .int .i64 (s : Nat)] 143))
  have HC0 := Lib.hid (HC.out.alloc (.cells #[.int .i64 (c : Nat), .int .i64 (s : Nat)] 143))
  have HF1 := Lib.hid (show Fr (w.setCell ⟨gm, 0, none⟩ (.bool true)) ow ((w.alloc (.cells #[.int .i64 (c : Nat), .int .i64 (s : Nat)] 143)).setCell ⟨gm, 0, none⟩ (.bool true)) ow from
    ⟨rfl, rfl, rfl, by simp [World.setCell], fun j hj _ => by
      have hj' : j < w.heap.size := by simpa [World.setCell] using hj
      by_cases e : j = gm
      · subst e
        have h1 := hm.put 0 (.bool true)
        have h2 := (hm.alloc (.cells #[.int .i64 (c : Nat), .int .i64 (s : Nat)] 143)).put 0 (.bool true)
        exact h2.trans h1.symm
      · rw [Below.heap_setCell _ _ _ j e, Below.heap_setCell _ _ _ j e]
        exact Below.heap_alloc w _ j hj', fun _ _ h => h⟩)
  clear hcm hfm hcc hml
  generalize w.alloc (.cells #[.int .i64 (c : Nat), .int .i64 (s : Nat)] 143) = W0 at *
  have hcm : W0.cell? ⟨gm, 0, none⟩ = some (.bool x) := HM.out.cell 0
  have hfm := HM.out.frozen 0
  go_upto_region 6 with fail
  have HX1 := Lib.hid (HX.out.far (p := ⟨gm, 0, none⟩) (fun e => hgm e.symm) (.bool true))
  have HCc1 := Lib.hid (HCc.out.far (p := ⟨gm, 0, none⟩) hne (.bool true))
  have HC1 := Lib.hid (show CN (W0.setCell ⟨gm, 0, none⟩ (.bool true)) ow b M L from HC0.out.keep (by simp [World.setCell]) fun g hg _ => Below.heap_setCell _ _ _ g (fun e => hg (by rw [e]; exact hmo)))
  clear hcm hfm
  generalize W0.setCell ⟨gm, 0, none⟩ (.bool true) = W1 at *
  have q0 : W1.cell? ⟨w.heap.size, 0, none⟩ = some (.int .i64 (c : Nat)) := HX1.out.cell 0
  have q1 : W1.cell? ⟨w.heap.size, 1, none⟩ = some (.int .i64 (s : Nat)) := HX1.out.cell 1
  have q2 : W1.cell? ⟨gc, 0, none⟩ = some (.pointer (some ⟨b, 0, none⟩)) := HCc1.out.cell 0
  go_wp2_with fail
  refine (HF.out W1 HC1.out HF1.out).mono ?_
  intro e w2 hp
  obtain rfl := hp.ret
  have HQ := Lib.hid (hp.trans HF1.out)
  clear hp
  go_wp2
  exact ⟨rfl, _, rfl, .tuple #[], by simp [results, Tryz.results68], rfl, rfl, HQ.out⟩
end Go.Proofs.YtkpppjhbmnfmkaaGreatDoor
end

section
namespace Go.Proofs.YtkpppjhbmnfmkaaGreatDoor
open Go.RowKit Go.Own Go.Own.Im Go.Own.Cx Go.Own.Fr
theorem results_step (tmps : Array Value) (w : World) (g : Nat) (a : Value) (h2 : tmps[2]? = some (.pointer (some ⟨g, 0, none⟩))) (c1 : w.cell? ⟨g, 0, none⟩ = some a) :
    (results Tryz.f40 tmps).run Tryz.prog w = .ok a w := by
  simp [results, Tryz.results40, go_sem, h2, c1]
theorem prefB_at {k : Nat} {x : UInt8} (h : prefB[k]? = some x) : k < 24 := by
  have := (List.getElem?_eq_some_iff.1 h).1
  simpa [prefB] using this
theorem CN.prefs {w : World} {ow : Nat → Tg} {b : Nat} {M : Cv} {L : Lay} (h : CN w ow b M L) (k : Nat) : CN (w.setCell ⟨b, 5, none⟩ (.int .i64 (k : Nat))) ow b { M with preface := k } L ∧ Fr w ow (w.setCell ⟨b, 5, none⟩ (.int .i64 (k : Nat))) ow := h.cell 5 _ rfl h.p
theorem CN.nos {w : World} {ow : Nat → Tg} {b : Nat} {M : Cv} {L : Lay} (h : CN w ow b M L) {g : Nat} (hg : ow g = .no) (i : Nat) (v : Value) : CN (w.setCell ⟨g, i, none⟩ v) ow b M L :=
  h.keep (by simp [World.setCell]) fun j hj _ => Below.heap_setCell _ _ _ j (fun e => hj (by rw [e]; exact hg))
theorem _root_.Go.Own.Cx.Fr.put {w w1 : World} {ow ow1 : Nat → Tg} (h : Fr w ow w1 ow1) {g : Nat} (hg : w.heap.size ≤ g) (i : Nat) (v : Value) : Fr w ow (w1.setCell ⟨g, i, none⟩ v) ow1 :=
  ⟨h.os, h.tape, h.output, by have := h.size; simp [World.setCell]; exact this, fun j hj ho => (Below.heap_setCell _ _ _ j (fun e => by have e : j = g := e; omega)).trans (h.keep j hj ho), h.no⟩
set_option maxHeartbeats 8000000 in
set_option maxRecDepth 100000 in
theorem step_pref (M : Cv) (x : UInt8) (l : List UInt8) (hx : prefB[M.preface]? = some x) (hl : M.fed = x :: l) : StepT M true (fun M' => M' = { M with preface := M.preface + 1, fed := l }) := by
  intro w ow b L hE h
  have HB0 := Lib.hid (((Below.refl w.heap.size w).alloc (Nat.le_refl _) (.cells #[.pointer (some ⟨b, 0, none⟩)] 26)).alloc (by simp) (.cells #[.bool false] 4))
  have X0 := Lib.hid ((Blk.new w 26 #[.pointer (some ⟨b, 0, none⟩)]).alloc (.cells #[.bool false] 4))
  have X1 := Lib.hid (Blk.new (w.alloc (.cells #[.pointer (some ⟨b, 0, none⟩)] 26)) 4 #[.bool false])
  have HZ := Lib.hid (show ((w.alloc (.cells #[.pointer (some ⟨b, 0, none⟩)] 26)).alloc (.cells #[.bool false] 4)).heap.size = w.heap.size + 1 + 1 by simp)
  have HC := Lib.hid h
  have HXx := Lib.hid hx
  have HL := Lib.hid hl
  have hk24 := prefB_at hx
  clear h hx hl hE
  simp only [World.size_alloc] at X1
  go_enter_defers Tryz.func40, Tryz.ntmps40
  go_upto_region 1 with fail
  generalize (w.alloc (.cells #[.pointer (some ⟨b, 0, none⟩)] 26)).alloc (.cells #[.bool false] 4) = W0 at *
  have HP := Lib.hid (preface_any W0)
  go_wp2_with fail
  refine HP.out.mono ?_
  rintro e w1 ⟨rfl, hr1, hb1⟩
  have HB1 := Lib.hid (HB0.out.trans (hb1.mono HB0.out.size))
  have HC1 := Lib.hid (HC.out.below HB1.out)
  have HX0 := Lib.hid (X0.out.below hb1 X0.out.lt)
  have HX1 := Lib.hid (X1.out.below hb1 X1.out.lt)
  have hoz := HC1.out.p.fed
  rw [HL.out] at hoz
  obtain ⟨A0, c0, hL0, hle0, _⟩ := hoz.form
  rw [hL0] at hoz
  obtain ⟨ad, rfl, _, hcell⟩ := hoz.rd.at_ (k := 0) (Nat.succ_pos _)
  have hcell : w1.cell? ad = some (.int .u8 (x.toNat : Int)) := hcell
  obtain ⟨ad2, e2, _, hcp⟩ := hr1.at_ (k := M.preface) hk24
  injection e2 with e2
  subst e2
  have hcp : w1.cell? ⟨W0.heap.size, M.preface, none⟩ = some (.int .u8 (x.toNat : Int)) := by
    have h1 : prefB.getD M.preface 0 = x := by rw [List.getD, HXx.out]; rfl
    rw [h1] at hcp
    rw [Addr.add_lit, Nat.zero_add] at hcp
    exact hcp
  have c3 : w1.cell? ⟨b, 3, none⟩ = some L.fed := HC1.out.blk.cell 3
  rw [hL0] at c3
  have c3 : w1.cell? ⟨b, 3, none⟩ = some (.slice (some ad) (l.length + 1) c0) := c3
  have c5 : w1.cell? ⟨b, 5, none⟩ = some (.int .i64 (M.preface : Nat)) := HC1.out.blk.cell 5
  have x0 : w1.cell? ⟨w.heap.size, 0, none⟩ = some (.pointer (some ⟨b, 0, none⟩)) := HX0.out.cell 0
  have f5 := HC1.out.blk.frozen 5
  have HL0 := Lib.hid hL0
  have hk1 : (M.preface : Int) < 24 := by omega
  have hw1 : wrap64 ((M.preface : Int) + 1) = ((M.preface + 1 : Nat) : Int) := by unfold wrap64; omega
  have hw2 : IntKind.i64.wrap ((M.preface : Int) + 1) = ((M.preface + 1 : Nat) : Int) := by rw [IntKind.wrap_i64]; omega
  clear hoz hr1 hL0 hb1
  go_wp2_with fail
  go_quiet (fail)
  go_upto_region 9 with fail
  rw [show ((M.preface : Int) + 1) = ((M.preface + 1 : Nat) : Int) from rfl]
  have a1 := (HC1.out.drewN nq).prefs (M.preface + 1)
  have HC2 := Lib.hid a1.1
  have HF2 := Lib.hid (((Fr.below HB1.out ow).trans (Fr.drewN _ ow nq)).trans a1.2)
  have hwb : w.heap.size ≠ b := by have := HC.out.blk.lt; omega
  have hwb1 : w.heap.size + 1 ≠ b := by have := HC.out.blk.lt; omega
  have HX0a := Lib.hid ((HX0.out.drewN nq).far (p := ⟨b, 5, none⟩) hwb (.int .i64 ((M.preface + 1 : Nat) : Int)))
  have HX1a := Lib.hid ((HX1.out.drewN nq).far (p := ⟨b, 5, none⟩) hwb1 (.int .i64 ((M.preface + 1 : Nat) : Int)))
  obtain ⟨A', hA'⟩ : ∃ A', (if c0 = 1 then some ad else (some ad).map fun y => y.add 1) = A' := ⟨_, rfl⟩
  have hrun : ∀ W, (Instr.slice 22 (.slice (some ad) (l.length + 1) c0) (some (.int .i64 1)) none none).run Tryz.prog W = .ok (.slice A' l.length (c0 - 1)) W := fun W => by
    have := run_from (P := Tryz.prog) (t := 22) byteP (some ad) (l.length + 1) c0 1 (by omega) hle0 W
    rw [hA'] at this
    exact this
  have HA := Lib.hid hA'
  clear a1 c3 c5 x0 f5 hcell hcp hk1 hw1 hw2 hA'
  generalize (w1.drewN nq).setCell ⟨b, 5, none⟩ (.int .i64 ((M.preface + 1 : Nat) : Int)) = W2 at *
  have c3 : W2.cell? ⟨b, 3, none⟩ = some L.fed := HC2.out.blk.cell 3
  rw [HL0.out] at c3
  have c3 : W2.cell? ⟨b, 3, none⟩ = some (.slice (some ad) (l.length + 1) c0) := c3
  have f3 := HC2.out.blk.frozen 3
  have x0 : W2.cell? ⟨w.heap.size, 0, none⟩ = some (.pointer (some ⟨b, 0, none⟩)) := HX0a.out.cell 0
  go_wp2_with fail
  go_region
  all_goals
    have hdrop : M.fed.drop 1 = l := by rw [HL.out]; rfl
    have a2 := HC2.out.cuts (k := 1) HL0.out (Nat.succ_le_succ (Nat.zero_le _)) HA.out
    have a3 : CN ((W2.setCell ⟨b, 3, none⟩ (.slice A' l.length (c0 - 1))).drew) ow b { M with preface := M.preface + 1, fed := M.fed.drop 1 } { L with fed := .slice A' l.length (c0 - 1) } := a2.1.drew
    rw [hdrop] at a3
    have HC3 := Lib.hid a3
    have HF3 := Lib.hid (show Fr w ow ((W2.setCell ⟨b, 3, none⟩ (.slice A' l.length (c0 - 1))).drew) ow from (HF2.out.trans a2.2).drew)
    have HX1b := Lib.hid (show Blk ((W2.setCell ⟨b, 3, none⟩ (.slice A' l.length (c0 - 1))).drew) (w.heap.size + 1) 4 #[.bool false] from HX1a.out.far (p := ⟨b, 3, none⟩) hwb1 _)
    clear a2 a3 c3 f3 x0 hrun
    generalize (W2.setCell ⟨b, 3, none⟩ (.slice A' l.length (c0 - 1))).drew = W3 at *
    have y0 : W3.cell? ⟨w.heap.size + 1, 0, none⟩ = some (.bool false) := HX1b.out.cell 0
    have yf := HX1b.out.frozen 0
    go_wp2
    refine leaves_cons (f := 68) (args := #[.pointer (some ⟨w.heap.size + 1, 0, none⟩), .pointer (some ⟨w.heap.size, 0, none⟩)]) (by simp) (by simp [go_sem]) ?_
    refine (step1_idle _ _ _).mono ?_
    rintro e u' w'' ⟨rfl, rfl, rfl⟩
    exact ⟨_, results_step _ _ (w.heap.size + 1) _ rfl ((HX1b.out.put 0 _).cell 0), _, rfl, ow, _, rfl, HC3.out.nos (HC.out.new _ (by omega)) 0 _, HF3.out.put (by omega) 0 _⟩
set_option maxHeartbeats 8000000 in
set_option maxRecDepth 100000 in
/-- Too few bytes of a frame. -/
theorem step_few (M : Cv) (hp : M.preface = 24) (hl : M.fed.length < 9) : StepT M false (fun M' => M' = M) := by
  intro w ow b L hE h
  have HB0 := Lib.hid (((Below.refl w.heap.size w).alloc (Nat.le_refl _) (.cells #[.pointer (some ⟨b, 0, none⟩)] 26)).alloc (by simp) (.cells #[.bool false] 4))
  have X0 := Lib.hid ((Blk.new w 26 #[.pointer (some ⟨b, 0, none⟩)]).alloc (.cells #[.bool false] 4))
  have X1 := Lib.hid (Blk.new (w.alloc (.cells #[.pointer (some ⟨b, 0, none⟩)] 26)) 4 #[.bool false])
  have HC := Lib.hid h
  have HPf := Lib.hid hp
  have HL := Lib.hid hl
  have HE := Lib.hid hE
  clear h hl hp hE
  simp only [World.size_alloc] at X1
  go_enter_defers Tryz.func40, Tryz.ntmps40
  go_upto_region 1 with fail
  generalize (w.alloc (.cells #[.pointer (some ⟨b, 0, none⟩)] 26)).alloc (.cells #[.bool false] 4) = W0 at *
  have HP := Lib.hid (preface_any W0)
  go_wp2_with fail
  refine HP.out.mono ?_
  rintro e w1 ⟨rfl, hr1, hb1⟩
  have HB1 := Lib.hid (HB0.out.trans (hb1.mono HB0.out.size))
  have HC1 := Lib.hid (HC.out.below HB1.out)
  have HX0 := Lib.hid (X0.out.below hb1 X0.out.lt)
  have HX1 := Lib.hid (X1.out.below hb1 X1.out.lt)
  have HE1 := Lib.hid (HE.out.fr (Fr.below HB1.out ow))
  have hoz := HC1.out.p.fed
  obtain ⟨A0, c0, hL0, hle0, _⟩ := hoz.form
  rw [hL0] at hoz
  have HRd := Lib.hid hoz.rd
  have c3 : w1.cell? ⟨b, 3, none⟩ = some L.fed := HC1.out.blk.cell 3
  rw [hL0] at c3
  have c5 : w1.cell? ⟨b, 5, none⟩ = some (.int .i64 (M.preface : Nat)) := HC1.out.blk.cell 5
  rw [HPf.out] at c5
  have x0 : w1.cell? ⟨w.heap.size, 0, none⟩ = some (.pointer (some ⟨b, 0, none⟩)) := HX0.out.cell 0
  obtain ⟨ae, al, hends⟩ := HE1.out.ends
  have HEn := Lib.hid hends
  have HG := Lib.hid (show 10 < w1.heap.size from Nat.lt_of_lt_of_le (by decide) HE1.out.room)
  have HGet := Lib.hid (fget_few A0 M.fed.length c0 M.fed w1 w1.heap.size 16384 _ HRd.out (Nat.le_refl _) hle0 (.inl HL.out) (by decide) hends.e HG.out)
  clear hoz hr1 hb1 hL0
  go_wp2_with fail
  refine HGet.out.mono ?_
  rintro e w2 ⟨rfl, hb2⟩
  have HC2 := Lib.hid (HC1.out.below hb2)
  have HX1a := Lib.hid (HX1.out.below hb2 HX1.out.lt)
  have HB2 := Lib.hid (HB1.out.trans (hb2.mono HB1.out.size))
  have HB3 := Lib.hid (HB2.out.alloc HB2.out.size (.cells #[.int .i64 0, .int .i64 0, .int .i64 0, .slice none 0 0] 24))
  have HE3 := Lib.hid ((HEn.out.fr (Fr.below hb2 ow)).fr (Fr.below ((Below.refl w2.heap.size w2).alloc (Nat.le_refl _) (.cells #[.int .i64 0, .int .i64 0, .int .i64 0, .slice none 0 0] 24)) ow))
  have HC3 := Lib.hid (HC2.out.alloc (.cells #[.int .i64 0, .int .i64 0, .int .i64 0, .slice none 0 0] 24))
  have HX1b := Lib.hid (HX1a.out.alloc (.cells #[.int .i64 0, .int .i64 0, .int .i64 0, .slice none 0 0] 24))
  clear c3 c5 x0 hb2 hends
  go_upto_region 12 with fail
  generalize w2.alloc (.cells #[.int .i64 0, .int .i64 0, .int .i64 0, .slice none 0 0] 24) = W3 at *
  have g1 := HE3.out.l
  have hee := HE3.out.eql
  have y0 : W3.cell? ⟨w.heap.size + 1, 0, none⟩ = some (.bool false) := HX1b.out.cell 0
  have yf := HX1b.out.frozen 0
  go_wp2
  refine leaves_cons (f := 68) (args := #[.pointer (some ⟨w.heap.size + 1, 0, none⟩), .pointer (some ⟨w.heap.size, 0, none⟩)]) (by simp) (by simp [go_sem]) ?_
  refine (step1_idle _ _ _).mono ?_
  rintro e u' w'' ⟨rfl, rfl, rfl⟩
  exact ⟨_, results_step _ _ (w.heap.size + 1) _ rfl ((HX1b.out.put 0 _).cell 0), M, rfl, ow, _, rfl, HC3.out.nos (HC.out.new _ (by omega)) 0 _, (Fr.below HB3.out ow).put (by omega) 0 _⟩
end Go.Proofs.YtkpppjhbmnfmkaaGreatDoor
end
