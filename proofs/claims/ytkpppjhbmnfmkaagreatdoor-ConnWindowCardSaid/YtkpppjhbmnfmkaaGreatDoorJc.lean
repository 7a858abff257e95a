/-
  How an end of a connection lies in memory; who owns which block; what a call may turn. No program text is walked here.
  The parts of an end, one by one, where some of them turn. No program text is walked here.
  What an append to an end's own bytes leaves: fed, the pieces' block; the pieces let go. No program text is walked here.
-/
import Derived.Test.YtkpppjhbmnfmkaaGreatDoorJb
import Derived.Test.YtkpppjhbmnfmkaaGreatDoorJa
import Derived.Test.YtkpppjhbmnfmkaaGreatDoorProg
set_option linter.unusedSimpArgs false
set_option linter.unusedVariables false
section
namespace Go.Own.Cx
open Go Go.RowKit Go.Own Go.Own.Im
def hdrC (h : Hd.HdrV) : Array Value := #[.string h.name, .string h.value, .bool h.never]
def hsz (h : Hd.HdrV) : Nat := h.name.size + h.value.size + 32
def hszs (l : List Hd.HdrV) : Nat := (l.map hsz).sum
/-- Who owns what, behind a step: what nobody of the end's owns is as it was, and stays nobody's. -/
structure Fr (w : World) (ow : Nat → Tg) (w' : World) (ow' : Nat → Tg) : Prop where
  os : w'.os = w.os
  tape : w'.tape = w.tape
  output : w'.output = w.output
  size : w.heap.size ≤ w'.heap.size
  keep : ∀ g, g < w.heap.size → ow g = .no → w'.heap[g]? = w.heap[g]?
  no : ∀ g, g < w.heap.size → ow g = .no → ow' g = .no
section
variable {w w1 w2 : World} {ow ow1 ow2 : Nat → Tg}
theorem Fr.refl (w : World) (ow : Nat → Tg) : Fr w ow w ow := ⟨rfl, rfl, rfl, Nat.le_refl _, fun _ _ _ => rfl, fun _ _ h => h⟩
theorem Fr.trans (h : Fr w ow w1 ow1) (k : Fr w1 ow1 w2 ow2) : Fr w ow w2 ow2 :=
  ⟨k.os.trans h.os, k.tape.trans h.tape, k.output.trans h.output, Nat.le_trans h.size k.size,
    fun g hg ho => (k.keep g (Nat.lt_of_lt_of_le hg h.size) (h.no g hg ho)).trans (h.keep g hg ho), fun g hg ho => k.no g (Nat.lt_of_lt_of_le hg h.size) (h.no g hg ho)⟩
theorem Fr.below (h : Below w.heap.size w w1) (ow : Nat → Tg) : Fr w ow w1 ow := ⟨h.os, h.tape, h.output, h.size, fun g hg _ => h.block g hg, fun _ _ h => h⟩
theorem Fr.grown {row : Option Nat} (h : w.grownBy w1 row) (hr : ∀ g, row = some g → ow g ≠ .no) : Fr w ow w1 ow :=
  ⟨h.os, h.tape, h.output, h.size, fun g hg ho => h.block g hg (fun e => hr g e.symm ho), fun _ _ h => h⟩
theorem Fr.tags (hno : ∀ g, g < w.heap.size → ow g = .no → ow1 g = .no) : Fr w ow w ow1 := ⟨rfl, rfl, rfl, Nat.le_refl _, fun _ _ _ => rfl, hno⟩
theorem Fr.drew (h : Fr w ow w1 ow1) : Fr w ow w1.drew ow1 := ⟨h.os, h.tape, h.output, h.size, h.keep, h.no⟩
/-- A block that nobody of the end's owns. -/
theorem Fr.blk {g : Nat} {t : TypeId} {cs : Array Value} (h : Fr w ow w1 ow1) (hb : Blk w g t cs) (ho : ow g = .no) : Blk w1 g t cs := (h.keep g hb.lt ho).trans hb
theorem Fr.rd {B n : Nat} {A : Option Addr} {l : List UInt8} (h : Fr w ow w1 ow1) (hr : Rd w B A n l) (hB : B ≤ w.heap.size) (ho : 0 < n → ∀ ad, A = some ad → ow ad.block = .no) : Rd w1 B A n l :=
  ⟨hr.1, fun hn => by
    obtain ⟨ad, e, hb, hc⟩ := hr.2 hn
    refine ⟨ad, e, hb, fun j hj => ?_⟩
    exact (World.cell?_of_block (a := ad.add j) (by rw [add_block]; exact h.keep ad.block (by omega) (ho hn ad e))).trans (hc j hj)⟩
end
theorem _root_.Go.Own.Oz.turn {w w' : World} {own own' : Nat → Prop} {v : Value} {l : List UInt8} (h : Oz w own v l) (hk : ∀ g, g < w.heap.size → own g → w'.heap[g]? = w.heap[g]? ∧ own' g) (hs : w.heap.size ≤ w'.heap.size) : Oz w' own' v l := by
  obtain ⟨A, c, rfl, h1, h2, h3⟩ := h
  refine ⟨A, c, rfl, h1, h2, fun hc => ?_⟩
  obtain ⟨g, off, e, ho, hlt, hs', hcl⟩ := h3 hc
  have hh := (hk g hlt ho).1
  have e1 : ∀ j, w'.cell? ⟨g, j, none⟩ = w.cell? ⟨g, j, none⟩ := fun j => World.cell?_of_block (a := ⟨g, j, none⟩) hh
  have e2 : ∀ j, w'.frozen? ⟨g, j, none⟩ = w.frozen? ⟨g, j, none⟩ := fun j => World.frozen?_of_block (a := ⟨g, j, none⟩) hh
  exact ⟨g, off, e, (hk g hlt ho).2, Nat.lt_of_lt_of_le hlt hs, fun j hl hj => by rw [e1, e2]; exact hs' j hl hj, fun j hj => by rw [e1]; exact hcl j hj⟩
/-- A block's owner is changed. -/
def upd (ow : Nat → Tg) (g : Nat) (t : Tg) : Nat → Tg := fun j => if j = g then t else ow j
theorem upd_same (ow : Nat → Tg) (g : Nat) (t : Tg) : upd ow g t g = t := by simp [upd]
theorem upd_other (ow : Nat → Tg) {g j : Nat} (t : Tg) (h : j ≠ g) : upd ow g t j = ow j := by simp [upd, h]
end Go.Own.Cx
namespace Go.Proofs.YtkpppjhbmnfmkaaGreatDoor
open Go.RowKit Go.Own Go.Own.Im Go.Own.Cx
/-- A table of headers: E, the oldest first. -/
def TabS (w : World) (own : Nat → Prop) (g : Nat) (E : List Hd.HdrV) (most : Nat) : Prop :=
  ∃ (r old : Nat) (cs : Array Value), Blk w g 179 #[.slice (some ⟨r, 0, none⟩) 128 128, .int .i64 (old : Nat), .int .i64 (E.length : Nat), .int .i64 (hszs E : Nat), .int .i64 (most : Nat)] ∧ Blk w r 63 cs ∧ own g ∧ own r ∧ cs.size = 384 ∧ old < 128 ∧ hszs E ≤ most ∧ most ≤ 4096 ∧
    (∀ k h, E[k]? = some h → cs[(old + k) % 128 * 3]? = some (.string h.name) ∧ cs[(old + k) % 128 * 3 + 1]? = some (.string h.value) ∧ cs[(old + k) % 128 * 3 + 2]? = some (.bool h.never)) ∧
    ∀ j, j < 128 → ∃ h : Hd.HdrV, cs[j * 3]? = some (.string h.name) ∧ cs[j * 3 + 1]? = some (.string h.value) ∧ cs[j * 3 + 2]? = some (.bool h.never)
/-- An encoder of which no other size was asked for; a decoder. -/
def EncS (w : World) (own : Nat → Prop) (e : Nat) : Prop := ∃ (tb least : Nat) (E : List Hd.HdrV) (most : Nat), Blk w e 135 #[.pointer (some ⟨tb, 0, none⟩), .int .i64 (least : Nat), .bool false] ∧ own e ∧ least ≤ 4096 ∧ TabS w own tb E most
def DecS (w : World) (own : Nat → Prop) (d : Nat) (gone : Bool) : Prop := ∃ (tb : Nat) (E : List Hd.HdrV) (most : Nat), Blk w d 137 #[.pointer (some ⟨tb, 0, none⟩), .int .i64 4096, .bool gone] ∧ own d ∧ TabS w own tb E most
/-- A stream. -/
structure SN (w : World) (ow : Nat → Tg) (co : Nat) (l : SLay) (s : Sv) : Prop where
  blk : Blk w l.sb 122 (stC s l)
  tb : ow l.sb = .st s.id 0
  inw : Blk w l.ib 177 #[.int .i64 s.inw]
  ti : ow l.ib = .st s.id 1
  outw : Blk w l.ob 177 #[.int .i64 s.outw]
  to : ow l.ob = .st s.id 2
  pair : Blk w l.pb 206 #[.slice (some ⟨l.rb, 0, none⟩) 2 2]
  tp : ow l.pb = .st s.id 3
  row : Blk w l.rb 75 #[.pointer (some ⟨co, 0, none⟩), .pointer (some ⟨l.ob, 0, none⟩)]
  tr : ow l.rb = .st s.id 4
  waits : Oz w (fun g => ow g = .st s.id 5) l.waits s.waits
/-- What has happened, as it reads. -/
structure EvOk (w : World) (ow : Nat → Tg) (e : EvV) : Prop where
  lst : e.l.length ≤ e.lc ∧ Cm.RS hdrC 3 w w.heap.size e.la e.l.length e.l ∧ (0 < e.l.length → ∀ ad, e.la = some ad → ow ad.block = .evd)
  byt : e.by_.length ≤ e.bc ∧ Rd w w.heap.size e.ba e.by_.length e.by_ ∧ (0 < e.by_.length → ∀ ad, e.ba = some ad → ow ad.block = .evd)
structure EvS (w : World) (ow : Nat → Tg) (v : Value) (l : List EvV) : Prop where
  row : Cm.Ew evC 43 7 w 0 v l
  own : ∀ g, v.ownBlock = some g → ow g = .ev
  each : ∀ e ∈ l, EvOk w ow e
/-- The pieces of a header list that is not whole. -/
def LsS (w : World) (ow : Nat → Tg) (v : Value) : Option (Nat × Bool × List UInt8) → Prop
  | none => v = .pointer none
  | some p => ∃ g bv, v = .pointer (some ⟨g, 0, none⟩) ∧ ow g = .lst ∧ Blk w g 195 #[.int .i64 (p.1 : Nat), .bool p.2.1, bv] ∧ Oz w (fun j => ow j = .blk) bv p.2.2
def sptr (L : Lay) (i : Nat) : Value := .pointer (some ⟨(L.s i).sb, 0, none⟩)
/-- The parts of an end. -/
structure CP (w : World) (ow : Nat → Tg) (fed out : List UInt8) (evs : List EvV) (inw outw : Int) (strs : List Sv) (list : Option (Nat × Bool × List UInt8)) (L : Lay) : Prop where
  fed : Oz w (fun g => ow g = .fed) L.fed fed
  out : Oz w (fun g => ow g = .out) L.out out
  ev : EvS w ow L.ev evs
  inw : Blk w L.ib 177 #[.int .i64 inw]
  ti : ow L.ib = .inw
  outw : Blk w L.ob 177 #[.int .i64 outw]
  to : ow L.ob = .outw
  map : SM Tryz.prog 3 w L.mb (strs.map (·.id)) (sptr L)
  tm : ow L.mb = .map
  strs : ∀ s ∈ strs, SN w ow L.ob (L.s s.id) s
  lst : LsS w ow L.list list
  enc : EncS w (fun g => ow g = .enc) L.enc
  dec : DecS w (fun g => ow g = .dec) L.dec false
/-- An end. -/
structure CN (w : World) (ow : Nat → Tg) (b : Nat) (M : Cv) (L : Lay) : Prop where
  blk : Blk w b 80 (cnC M L)
  tb : ow b = .cn
  p : CP w ow M.fed M.out M.evs M.inw M.outw M.strs M.list L
  new : ∀ g, w.heap.size ≤ g → ow g = .no
section
variable {w w' : World} {ow ow' : Nat → Tg}
theorem TabS.keep {own own' : Nat → Prop} {g : Nat} {E : List Hd.HdrV} {m : Nat} (h : TabS w own g E m) (hk : ∀ g, own g → g < w.heap.size → w'.heap[g]? = w.heap[g]?) (ho : ∀ g, own g → g < w.heap.size → own' g) : TabS w' own' g E m := by
  obtain ⟨r, old, cs, h1, h2, h3, h4, h5⟩ := h
  exact ⟨r, old, cs, (hk g h3 h1.lt).trans h1, (hk r h4 h2.lt).trans h2, ho g h3 h1.lt, ho r h4 h2.lt, h5⟩
theorem EncS.keep {own own' : Nat → Prop} {g : Nat} (h : EncS w own g) (hk : ∀ g, own g → g < w.heap.size → w'.heap[g]? = w.heap[g]?) (ho : ∀ g, own g → g < w.heap.size → own' g) : EncS w' own' g := by
  obtain ⟨tb, le, E, m, h1, h2, h3, h4⟩ := h
  exact ⟨tb, le, E, m, (hk g h2 h1.lt).trans h1, ho g h2 h1.lt, h3, h4.keep hk ho⟩
theorem DecS.keep {own own' : Nat → Prop} {g : Nat} {b : Bool} (h : DecS w own g b) (hk : ∀ g, own g → g < w.heap.size → w'.heap[g]? = w.heap[g]?) (ho : ∀ g, own g → g < w.heap.size → own' g) : DecS w' own' g b := by
  obtain ⟨tb, E, m, h1, h2, h4⟩ := h
  exact ⟨tb, E, m, (hk g h2 h1.lt).trans h1, ho g h2 h1.lt, h4.keep hk ho⟩
theorem SN.keep {co : Nat} {l : SLay} {s : Sv} (h : SN w ow co l s) (hs : w.heap.size ≤ w'.heap.size) (hk : ∀ g k, ow g = .st s.id k → g < w.heap.size → w'.heap[g]? = w.heap[g]? ∧ ow' g = .st s.id k) : SN w' ow' co l s :=
  ⟨(hk _ _ h.tb h.blk.lt).1.trans h.blk, (hk _ _ h.tb h.blk.lt).2, (hk _ _ h.ti h.inw.lt).1.trans h.inw, (hk _ _ h.ti h.inw.lt).2, (hk _ _ h.to h.outw.lt).1.trans h.outw, (hk _ _ h.to h.outw.lt).2,
    (hk _ _ h.tp h.pair.lt).1.trans h.pair, (hk _ _ h.tp h.pair.lt).2, (hk _ _ h.tr h.row.lt).1.trans h.row, (hk _ _ h.tr h.row.lt).2,
    h.waits.turn (fun g hg ho => hk g 5 ho hg) hs⟩
theorem EvOk.keep {e : EvV} (h : EvOk w ow e) (hs : w.heap.size ≤ w'.heap.size) (hk : ∀ g, ow g = .evd → g < w.heap.size → w'.heap[g]? = w.heap[g]? ∧ ow' g = .evd) : EvOk w' ow' e := by
  obtain ⟨⟨h1, h2, h3⟩, ⟨h1', h2', h3'⟩⟩ := h
  refine ⟨⟨h1, ?_, fun hl ad ha => ?_⟩, ⟨h1', ?_, fun hl ad ha => ?_⟩⟩
  · rcases Nat.eq_zero_or_pos e.l.length with h0 | h0
    · exact ⟨rfl, fun j x hx => by have := (List.getElem?_eq_some_iff.1 hx).1; omega⟩
    · exact (h2.keep hs fun ad ha _ hlt => (hk _ (h3 h0 ad ha) hlt).1).more hs
  · obtain ⟨ad', ha', _, hlt, _⟩ := h2.2 0 _ (List.getElem?_eq_getElem hl)
    rw [ha] at ha'; injection ha' with ha'; subst ha'
    exact (hk _ (h3 hl ad ha) hlt).2
  · refine ⟨h2'.1, fun hn => ?_⟩
    obtain ⟨ad, ha, hb, hc⟩ := h2'.2 hn
    exact ⟨ad, ha, Nat.lt_of_lt_of_le hb hs, fun j hj => (World.cell?_of_block (a := ad.add j) (by rw [add_block]; exact (hk _ (h3' hn ad ha) hb).1)).trans (hc j hj)⟩
  · obtain ⟨ad', ha', hb, _⟩ := h2'.2 hl
    rw [ha] at ha'; injection ha' with ha'; subst ha'
    exact (hk _ (h3' hl ad ha) hb).2
theorem EvS.keep {v : Value} {l : List EvV} (h : EvS w ow v l) (hs : w.heap.size ≤ w'.heap.size) (hk : ∀ g, ow g = .ev → g < w.heap.size → w'.heap[g]? = w.heap[g]? ∧ ow' g = .ev) (hk2 : ∀ g, ow g = .evd → g < w.heap.size → w'.heap[g]? = w.heap[g]? ∧ ow' g = .evd) : EvS w' ow' v l := by
  refine ⟨⟨h.row.1, ?_⟩, fun g e => ?_, fun e he => (h.each e he).keep hs hk2⟩
  · rcases h.row.2 with h0 | ⟨g, cap, cur, rfl, hb, hg, r⟩
    · exact .inl h0
    · exact .inr ⟨g, cap, cur, rfl, hb, (hk g (h.own g rfl) (Array.getElem?_eq_some_iff.1 hg).1).1.trans hg, r⟩
  · exact (hk g (h.own g e) (h.row.lt g e).2).2
theorem LsS.keep {v : Value} : ∀ {o : Option (Nat × Bool × List UInt8)}, LsS w ow v o → w.heap.size ≤ w'.heap.size → (∀ g, (ow g = .lst ∨ ow g = .blk) → g < w.heap.size → w'.heap[g]? = w.heap[g]? ∧ ow' g = ow g) → LsS w' ow' v o
  | none, h, _, _ => h
  | some _, ⟨g, bv, e, h1, h2, h3⟩, hs, hk => ⟨g, bv, e, (hk g (.inl h1) h2.lt).2.trans h1, (hk g (.inl h1) h2.lt).1.trans h2, h3.turn (fun j hj ho => ⟨(hk j (.inr ho) hj).1, (hk j (.inr ho) hj).2.trans ho⟩) hs⟩
/-- Whatever is nobody's may turn; what is the end's, but the end's own block, is as it was. -/
theorem CP.keep {fed out : List UInt8} {evs : List EvV} {inw outw : Int} {strs : List Sv} {list : Option (Nat × Bool × List UInt8)} {L : Lay} (h : CP w ow fed out evs inw outw strs list L) (hs : w.heap.size ≤ w'.heap.size)
    (hk : ∀ g, ow g ≠ .no → ow g ≠ .cn → g < w.heap.size → w'.heap[g]? = w.heap[g]? ∧ ow' g = ow g) : CP w' ow' fed out evs inw outw strs list L := by
  have k : ∀ (t : Tg), t ≠ .no → t ≠ .cn → ∀ g, ow g = t → g < w.heap.size → w'.heap[g]? = w.heap[g]? ∧ ow' g = t := fun t h1 h2 g hg hlt => by
    have := hk g (by rw [hg]; exact h1) (by rw [hg]; exact h2) hlt
    exact ⟨this.1, this.2.trans hg⟩
  refine ⟨h.fed.turn (fun g a b => k .fed (by decide) (by decide) g b a) hs, h.out.turn (fun g a b => k .out (by decide) (by decide) g b a) hs, h.ev.keep hs (k .ev (by decide) (by decide)) (k .evd (by decide) (by decide)),
    (k .inw (by decide) (by decide) _ h.ti h.inw.lt).1.trans h.inw, (k .inw (by decide) (by decide) _ h.ti h.inw.lt).2, (k .outw (by decide) (by decide) _ h.to h.outw.lt).1.trans h.outw, (k .outw (by decide) (by decide) _ h.to h.outw.lt).2,
    h.map.keep (k .map (by decide) (by decide) _ h.tm h.map.lt).1, (k .map (by decide) (by decide) _ h.tm h.map.lt).2, fun s hm => (h.strs s hm).keep hs fun g j hg hlt => k (.st s.id j) (by simp) (by simp) g hg hlt,
    h.lst.keep hs (fun g hg hlt => ?_), h.enc.keep (fun g a b => (k .enc (by decide) (by decide) g a b).1) (fun g a b => (k .enc (by decide) (by decide) g a b).2), h.dec.keep (fun g a b => (k .dec (by decide) (by decide) g a b).1) (fun g a b => (k .dec (by decide) (by decide) g a b).2)⟩
  rcases hg with hg | hg
  · exact ⟨(k .lst (by decide) (by decide) g hg hlt).1, (k .lst (by decide) (by decide) g hg hlt).2.trans hg.symm⟩
  · exact ⟨(k .blk (by decide) (by decide) g hg hlt).1, (k .blk (by decide) (by decide) g hg hlt).2.trans hg.symm⟩
theorem CN.keep {b : Nat} {M : Cv} {L : Lay} (h : CN w ow b M L) (hs : w.heap.size ≤ w'.heap.size) (hk : ∀ g, ow g ≠ .no → g < w.heap.size → w'.heap[g]? = w.heap[g]?) : CN w' ow b M L :=
  ⟨(hk b (by rw [h.tb]; decide) h.blk.lt).trans h.blk, h.tb, h.p.keep hs fun g a _ c => ⟨hk g a c, rfl⟩, fun g hg => h.new g (Nat.le_trans hs hg)⟩
theorem CN.below {b : Nat} {M : Cv} {L : Lay} (h : CN w ow b M L) (hb : Below w.heap.size w w') : CN w' ow b M L := h.keep hb.size fun g _ hg => hb.block g hg
theorem CN.alloc {b : Nat} {M : Cv} {L : Lay} (h : CN w ow b M L) (o : Obj) : CN (w.alloc o) ow b M L := h.below ((Below.refl _ _).alloc (Nat.le_refl _) o)
theorem CN.drew {b : Nat} {M : Cv} {L : Lay} (h : CN w ow b M L) : CN w.drew ow b M L := h.keep (Nat.le_refl _) fun _ _ _ => rfl
/-- A field that hangs on nothing else is stored. -/
theorem CN.cell {b : Nat} {M M' : Cv} {L L' : Lay} (h : CN w ow b M L) (i : Nat) (v : Value) (hc : (cnC M L).setIfInBounds i v = cnC M' L') (hp : CP w ow M'.fed M'.out M'.evs M'.inw M'.outw M'.strs M'.list L') :
    CN (w.setCell ⟨b, i, none⟩ v) ow b M' L' ∧ Fr w ow (w.setCell ⟨b, i, none⟩ v) ow := by
  have hsz : (w.setCell ⟨b, i, none⟩ v).heap.size = w.heap.size := by simp [World.setCell]
  refine ⟨⟨hc ▸ h.blk.put i v, h.tb, hp.keep (by omega) fun g _ hn _ => ⟨Below.heap_setCell w _ _ g (fun e => hn (by rw [e]; exact h.tb)), rfl⟩, fun g hg => h.new g (by omega)⟩, ?_⟩
  exact Fr.grown (grown_setCell (World.grownBy.refl w (some b)) i v) fun g e => by injection e with e; subst e; rw [h.tb]; decide
end
end Go.Proofs.YtkpppjhbmnfmkaaGreatDoor
end

section
namespace Go.Proofs.YtkpppjhbmnfmkaaGreatDoor
open Go.RowKit Go.Own Go.Own.Im Go.Own.Cx
/-- What may turn: the blocks of the owners T, and what is nobody's. -/
structure Kp (T : Tg → Prop) (w : World) (ow : Nat → Tg) (w' : World) (ow' : Nat → Tg) : Prop where
  size : w.heap.size ≤ w'.heap.size
  keep : ∀ g, ow g ≠ .no → ¬ T (ow g) → g < w.heap.size → w'.heap[g]? = w.heap[g]? ∧ ow' g = ow g
section
variable {T : Tg → Prop} {w w' : World} {ow ow' : Nat → Tg} {fed out : List UInt8} {evs : List EvV} {inw outw : Int} {strs : List Sv} {list : Option (Nat × Bool × List UInt8)} {L : Lay}
theorem Kp.at_ (k : Kp T w ow w' ow') (t : Tg) (hn : t ≠ .no) (ht : ¬ T t) : ∀ g, ow g = t → g < w.heap.size → w'.heap[g]? = w.heap[g]? ∧ ow' g = t := fun g hg hlt => by
  have := k.keep g (by rw [hg]; exact hn) (by rw [hg]; exact ht) hlt
  exact ⟨this.1, this.2.trans hg⟩
theorem CP.fedK (h : CP w ow fed out evs inw outw strs list L) (k : Kp T w ow w' ow') (ht : ¬ T .fed) : Oz w' (fun g => ow' g = .fed) L.fed fed := h.fed.turn (fun g a b => k.at_ .fed (by decide) ht g b a) k.size
theorem CP.outK (h : CP w ow fed out evs inw outw strs list L) (k : Kp T w ow w' ow') (ht : ¬ T .out) : Oz w' (fun g => ow' g = .out) L.out out := h.out.turn (fun g a b => k.at_ .out (by decide) ht g b a) k.size
theorem CP.evK (h : CP w ow fed out evs inw outw strs list L) (k : Kp T w ow w' ow') (ht : ¬ T .ev) (ht2 : ¬ T .evd) : EvS w' ow' L.ev evs := h.ev.keep k.size (k.at_ .ev (by decide) ht) (k.at_ .evd (by decide) ht2)
theorem CP.inwK (h : CP w ow fed out evs inw outw strs list L) (k : Kp T w ow w' ow') (ht : ¬ T .inw) : Blk w' L.ib 177 #[.int .i64 inw] ∧ ow' L.ib = .inw := ⟨(k.at_ .inw (by decide) ht _ h.ti h.inw.lt).1.trans h.inw, (k.at_ .inw (by decide) ht _ h.ti h.inw.lt).2⟩
theorem CP.outwK (h : CP w ow fed out evs inw outw strs list L) (k : Kp T w ow w' ow') (ht : ¬ T .outw) : Blk w' L.ob 177 #[.int .i64 outw] ∧ ow' L.ob = .outw := ⟨(k.at_ .outw (by decide) ht _ h.to h.outw.lt).1.trans h.outw, (k.at_ .outw (by decide) ht _ h.to h.outw.lt).2⟩
theorem CP.mapK (h : CP w ow fed out evs inw outw strs list L) (k : Kp T w ow w' ow') (ht : ¬ T .map) : SM Tryz.prog 3 w' L.mb (strs.map (·.id)) (sptr L) ∧ ow' L.mb = .map := ⟨h.map.keep (k.at_ .map (by decide) ht _ h.tm h.map.lt).1, (k.at_ .map (by decide) ht _ h.tm h.map.lt).2⟩
theorem CP.strK (h : CP w ow fed out evs inw outw strs list L) (k : Kp T w ow w' ow') (s : Sv) (hs : s ∈ strs) (ht : ∀ j, ¬ T (.st s.id j)) : SN w' ow' L.ob (L.s s.id) s := (h.strs s hs).keep k.size fun g j hg hlt => k.at_ (.st s.id j) (by simp) (ht j) g hg hlt
theorem CP.lstK (h : CP w ow fed out evs inw outw strs list L) (k : Kp T w ow w' ow') (h1 : ¬ T .lst) (h2 : ¬ T .blk) : LsS w' ow' L.list list := h.lst.keep k.size fun g hg hlt => by
  rcases hg with hg | hg
  · exact ⟨(k.at_ .lst (by decide) h1 g hg hlt).1, (k.at_ .lst (by decide) h1 g hg hlt).2.trans hg.symm⟩
  · exact ⟨(k.at_ .blk (by decide) h2 g hg hlt).1, (k.at_ .blk (by decide) h2 g hg hlt).2.trans hg.symm⟩
theorem CP.encK (h : CP w ow fed out evs inw outw strs list L) (k : Kp T w ow w' ow') (ht : ¬ T .enc) : EncS w' (fun g => ow' g = .enc) L.enc := h.enc.keep (fun g a b => (k.at_ .enc (by decide) ht g a b).1) fun g a b => (k.at_ .enc (by decide) ht g a b).2
theorem CP.decK (h : CP w ow fed out evs inw outw strs list L) (k : Kp T w ow w' ow') (ht : ¬ T .dec) : DecS w' (fun g => ow' g = .dec) L.dec false := h.dec.keep (fun g a b => (k.at_ .dec (by decide) ht g a b).1) fun g a b => (k.at_ .dec (by decide) ht g a b).2
theorem CN.blkK {b : Nat} {M : Cv} (h : CN w ow b M L) (k : Kp T w ow w' ow') (ht : ¬ T .cn) : Blk w' b 80 (cnC M L) ∧ ow' b = .cn := ⟨(k.at_ .cn (by decide) ht _ h.tb h.blk.lt).1.trans h.blk, (k.at_ .cn (by decide) ht _ h.tb h.blk.lt).2⟩
/-- One block of an owner t turns, in place or new. -/
theorem Kp.row {b : Nat} {M : Cv} (h : CN w ow b M L) {row : Option Nat} {t : Tg} (hg : w.grownBy w' row) (hr : ∀ g, row = some g → ow g = t) : Kp (fun x => x = t) w ow w' ow :=
  ⟨hg.size, fun g _ ht hlt => ⟨hg.block g hlt (fun e => ht (hr g e.symm)), rfl⟩⟩
theorem Kp.rowNew {b : Nat} {M : Cv} (h : CN w ow b M L) {row : Option Nat} {t : Tg} (hg : w.grownBy w' row) (hr : ∀ g, row = some g → ow g = t) (j : Nat) (hj : w.heap.size ≤ j) : Kp (fun x => x = t) w ow w' (upd ow j t) :=
  ⟨hg.size, fun g _ ht hlt => ⟨hg.block g hlt (fun e => ht (hr g e.symm)), upd_other _ _ (by omega)⟩⟩
end
end Go.Proofs.YtkpppjhbmnfmkaaGreatDoor
end

section
namespace Go.Proofs.YtkpppjhbmnfmkaaGreatDoor
open Go.RowKit Go.Own Go.Own.Im Go.Own.Cx
section
variable {w wA w8 : World} {ow : Nat → Tg} {b : Nat} {M : Cv} {L : Lay} {row : Option Nat} {t : Tg}
/-- The owners behind an append to a slice of the owner t. -/
theorem CN.apped (h : CN wA ow b M L) (hg : wA.grownBy w8 row) (hr : ∀ g, row = some g → ow g = t ∧ g < wA.heap.size) (htn : t ≠ .no) : ∃ ow', Kp (fun x => x = t) wA ow w8 ow' ∧ Fr wA ow w8 ow' ∧ (∀ g, w8.heap.size ≤ g → ow' g = .no) ∧ ∀ g, g < w8.heap.size → (ow g = t ∨ (row = none ∧ g = wA.heap.size)) → ow' g = t := by
  have hs := hg.size
  have hfr : Fr wA ow w8 ow := Fr.grown hg fun g e => by rw [(hr g e).1]; exact htn
  by_cases hc : row = none ∧ wA.heap.size < w8.heap.size
  · refine ⟨upd ow wA.heap.size t, Kp.rowNew h hg (fun g e => (hr g e).1) _ (Nat.le_refl _), ⟨hfr.os, hfr.tape, hfr.output, hfr.size, hfr.keep, fun g hlt ho => by rw [upd_other _ _ (by omega)]; exact ho⟩, fun g hge => by rw [upd_other _ _ (by omega)]; exact h.new g (by omega), fun g hlt ho => ?_⟩
    by_cases e : g = wA.heap.size
    · rw [e]; exact upd_same _ _ _
    · rw [upd_other _ _ e]
      rcases ho with ho | ⟨_, ho⟩
      · exact ho
      · exact absurd ho e
  · refine ⟨ow, Kp.row h hg (fun g e => (hr g e).1), hfr, fun g hge => h.new g (by omega), fun g hlt ho => ?_⟩
    rcases ho with ho | ⟨h1, h2⟩
    · exact ho
    · exact absurd ⟨h1, by omega⟩ hc
/-- What is fed. -/
theorem CN.feeds (h : CN wA ow b M L) {v : Value} {l : List UInt8} (hO : Oz w8 (fun g => ow g = .fed ∨ (row = none ∧ g = wA.heap.size)) v l) (hg : wA.grownBy w8 row) (hr : ∀ g, row = some g → ow g = .fed ∧ g < wA.heap.size) :
    ∃ ow' L', CN (w8.setCell ⟨b, 3, none⟩ v) ow' b { M with fed := l } L' ∧ Fr wA ow (w8.setCell ⟨b, 3, none⟩ v) ow' ∧ L'.s = L.s := by
  obtain ⟨ow', k, hfr, hnew, hown⟩ := h.apped hg hr (by decide)
  have hbk := h.blkK k (by decide)
  have hz : Oz w8 (fun g => ow' g = .fed) v l := hO.owned hown
  have hcp : CP w8 ow' l M.out M.evs M.inw M.outw M.strs M.list { L with fed := v } :=
    ⟨hz, h.p.outK k (by decide), h.p.evK k (by decide) (by decide), (h.p.inwK k (by decide)).1, (h.p.inwK k (by decide)).2, (h.p.outwK k (by decide)).1, (h.p.outwK k (by decide)).2, (h.p.mapK k (by decide)).1, (h.p.mapK k (by decide)).2,
      fun s hs => h.p.strK k s hs (by intro j; simp), h.p.lstK k (by decide) (by decide), h.p.encK k (by decide), h.p.decK k (by decide)⟩
  have hsz : (w8.setCell ⟨b, 3, none⟩ v).heap.size = w8.heap.size := by simp [World.setCell]
  refine ⟨ow', { L with fed := v }, ⟨hbk.1.put 3 _, hbk.2, hcp.keep (by omega) fun g _ hn _ => ⟨Below.heap_setCell w8 _ _ g (fun e => hn (by rw [e]; exact hbk.2)), rfl⟩, fun g hge => hnew g (by omega)⟩, hfr.trans ?_, rfl⟩
  exact Fr.grown (grown_setCell (World.grownBy.refl w8 (some b)) 3 _) fun g e => by injection e with e; subst e; rw [hbk.2]; decide
/-- The pieces' block. -/
theorem CN.blocks (h : CN wA ow b M L) {gp id : Nat} {fin : Bool} {l0 l : List UInt8} {v v0 : Value} (hM : M.list = some (id, fin, l0)) (hL : L.list = .pointer (some ⟨gp, 0, none⟩)) (hgp : ow gp = .lst) (hb : Blk wA gp 195 #[.int .i64 (id : Nat), .bool fin, v0])
    (hO : Oz w8 (fun g => ow g = .blk ∨ (row = none ∧ g = wA.heap.size)) v l) (hg : wA.grownBy w8 row) (hr : ∀ g, row = some g → ow g = .blk ∧ g < wA.heap.size) :
    ∃ ow', CN (w8.setCell ⟨gp, 2, none⟩ v) ow' b { M with list := some (id, fin, l) } L ∧ Fr wA ow (w8.setCell ⟨gp, 2, none⟩ v) ow' ∧ ow' gp = .lst ∧ Blk (w8.setCell ⟨gp, 2, none⟩ v) gp 195 #[.int .i64 (id : Nat), .bool fin, v] := by
  obtain ⟨ow', k, hfr, hnew, hown⟩ := h.apped hg hr (by decide)
  have hbk := h.blkK k (by decide)
  have hz : Oz w8 (fun g => ow' g = .blk) v l := hO.owned hown
  have hp := k.at_ .lst (by decide) (by decide) gp hgp hb.lt
  have hb8 : Blk w8 gp 195 #[.int .i64 (id : Nat), .bool fin, v0] := hp.1.trans hb
  have hsz : (w8.setCell ⟨gp, 2, none⟩ v).heap.size = w8.heap.size := by simp [World.setCell]
  have k2 : Kp (fun x => x = .blk ∨ x = .lst) wA ow (w8.setCell ⟨gp, 2, none⟩ v) ow' := ⟨by have := k.size; omega, fun g hn ht hlt => by
    have h1 := k.keep g hn (fun e => ht (.inl e)) hlt
    exact ⟨(Below.heap_setCell w8 _ _ g (fun e => ht (.inr (by rw [e]; exact hgp)))).trans h1.1, h1.2⟩⟩
  have hbk2 := h.blkK k2 (by decide)
  have hlast := hb8.put 2 v
  simp only [List.setIfInBounds_toArray, List.set_cons_zero, List.set_cons_succ] at hlast
  have hz2 : Oz (w8.setCell ⟨gp, 2, none⟩ v) (fun g => ow' g = .blk) v l := hz.grown (grown_setCell (World.grownBy.refl w8 (some gp)) 2 v) fun g e he => by
    injection e with e
    subst e
    rw [hp.2] at he
    cases he
  refine ⟨ow', ⟨hbk2.1, hbk2.2, ⟨h.p.fedK k2 (by decide), h.p.outK k2 (by decide), h.p.evK k2 (by decide) (by decide), (h.p.inwK k2 (by decide)).1, (h.p.inwK k2 (by decide)).2, (h.p.outwK k2 (by decide)).1, (h.p.outwK k2 (by decide)).2, (h.p.mapK k2 (by decide)).1, (h.p.mapK k2 (by decide)).2,
      fun s hs => h.p.strK k2 s hs (by intro j; simp), ⟨gp, v, hL, hp.2, hlast, hz2⟩, h.p.encK k2 (by decide), h.p.decK k2 (by decide)⟩, fun g hge => hnew g (by omega)⟩, hfr.trans ?_, hp.2, hlast⟩
  exact Fr.grown (grown_setCell (World.grownBy.refl w8 (some gp)) 2 _) fun g e => by injection e with e; subst e; rw [hp.2]; decide
/-- The pieces are let go. -/
def offT (ow : Nat → Tg) : Nat → Tg := fun j => if ow j = .lst ∨ ow j = .blk then .no else ow j
theorem CN.unlists (h : CN w ow b M L) : CN (w.setCell ⟨b, 16, none⟩ (.pointer none)) (offT ow) b { M with list := none } { L with list := .pointer none } ∧ Fr w ow (w.setCell ⟨b, 16, none⟩ (.pointer none)) (offT ow) := by
  have hoff : ∀ j, ow j ≠ .lst → ow j ≠ .blk → offT ow j = ow j := fun j h1 h2 => by unfold offT; rw [if_neg]; rintro (e | e); exact h1 e; exact h2 e
  have hsz : (w.setCell ⟨b, 16, none⟩ (.pointer none)).heap.size = w.heap.size := by simp [World.setCell]
  have k : Kp (fun x => x = .blk ∨ x = .lst) w ow w (offT ow) := ⟨Nat.le_refl _, fun g _ ht _ => ⟨rfl, hoff g (fun e => ht (.inr e)) (fun e => ht (.inl e))⟩⟩
  have hbk := h.blkK k (by decide)
  have hcp : CP w (offT ow) M.fed M.out M.evs M.inw M.outw M.strs none { L with list := .pointer none } :=
    ⟨h.p.fedK k (by decide), h.p.outK k (by decide), h.p.evK k (by decide) (by decide), (h.p.inwK k (by decide)).1, (h.p.inwK k (by decide)).2, (h.p.outwK k (by decide)).1, (h.p.outwK k (by decide)).2, (h.p.mapK k (by decide)).1, (h.p.mapK k (by decide)).2,
      fun s hs => h.p.strK k s hs (by intro j; simp), rfl, h.p.encK k (by decide), h.p.decK k (by decide)⟩
  refine ⟨⟨hbk.1.put 16 _, hbk.2, hcp.keep (by omega) fun g _ hn _ => ⟨Below.heap_setCell w _ _ g (fun e => hn (by rw [e]; exact hbk.2)), rfl⟩, fun g hge => ?_⟩, ⟨rfl, rfl, rfl, by omega, fun g hlt ho => Below.heap_setCell w _ _ g (fun e => by rw [e, h.tb] at ho; cases ho), fun g hlt ho => ?_⟩⟩
  · rw [hoff g (by rw [h.new g (by omega)]; decide) (by rw [h.new g (by omega)]; decide)]
    exact h.new g (by omega)
  · rw [hoff g (by rw [ho]; decide) (by rw [ho]; decide)]
    exact ho
end
end Go.Proofs.YtkpppjhbmnfmkaaGreatDoor
end
