/-
  Contract of the document: messages.
-/
import Derived.Test.YtcjcpkjdhagofaaRb
namespace Go.Own.Cm
open Go Go.RowKit Go.Own
theorem Ew.base {α : Type} {f : α → Array Value} {e : TypeId} {k : Nat} {w : World} {b b' : Nat} {v : Value} {l : List α} (h : Ew f e k w b v l) (hb : b' ≤ b) : Ew f e k w b' v l := by
  rcases h with ⟨h1, h2⟩
  refine ⟨h1, ?_⟩
  rcases h2 with h2 | ⟨g, cap, cur, r0, r1, r2⟩
  · exact .inl h2
  · exact .inr ⟨g, cap, cur, r0, Nat.le_trans hb r1, r2⟩
end Go.Own.Cm
namespace Go.Proofs.Ytcjcpkjdhagofaa
open Go.RowKit Go.Own Go.Own.Cm Go.Shelf
attribute [local go_sem] Oper.semAt_some
/-- A list of breaks of one's own, grown since w1. -/
structure RJ (base : Nat) (w1 : World) (v1 : Value) (L : List BrkV) (W : World) (v : Value) : Prop where
  own : ErR W base v L
  st : GrSt w1 v1 W v
theorem RJ.below {base : Nat} {w1 W W' : World} {v1 v : Value} {L : List BrkV} (h : RJ base w1 v1 L W v) (hb : Below W.heap.size W W') : RJ base w1 v1 L W' v := ⟨h.own.below hb, h.st.trans (GrSt.of_below hb)⟩
structure MidR (base b10 b12 b13 : Nat) (w1 : World) (v1 : Value) (nm : ByteArray) (f g : FldV) (L : List BrkV) (why : Int) (js : Bool) (W : World) (v : Value) : Prop where
  rj : RJ base w1 v1 L W v
  hf : Blk W b10 42 f.cells
  hb : Blk W b12 32 (BrkV.cells ⟨nm, f.nm, f.num, why, js⟩)
  hg : Blk W b13 42 g.cells
  own : v.ownBlock ≠ some b10 ∧ v.ownBlock ≠ some b12 ∧ v.ownBlock ≠ some b13
  ne : b10 ≠ b12 ∧ b13 ≠ b12
  up : w1.heap.size ≤ b12 ∧ v1.ownBlock ≠ some b12
section
variable {base b10 b12 b13 : Nat} {w1 W W' : World} {v1 v : Value} {nm : ByteArray} {f g : FldV} {L : List BrkV} {why : Int} {js : Bool}
theorem MidR.below (h : MidR base b10 b12 b13 w1 v1 nm f g L why js W v) (hb : Below W.heap.size W W') : MidR base b10 b12 b13 w1 v1 nm f g L why js W' v :=
  ⟨h.rj.below hb, h.hf.below hb h.hf.lt, h.hb.below hb h.hb.lt, h.hg.below hb h.hg.lt, h.own, h.ne, h.up⟩
theorem MidR.put (h : MidR base b10 b12 b13 w1 v1 nm f g L why js W v) (i : Nat) (u : Value) {why' : Int} {js' : Bool} (he : (BrkV.cells ⟨nm, f.nm, f.num, why, js⟩).setIfInBounds i u = BrkV.cells ⟨nm, f.nm, f.num, why', js'⟩) :
    MidR base b10 b12 b13 w1 v1 nm f g L why' js' (W.setCell ⟨b12, i, none⟩ u) v := by
  refine ⟨⟨h.rj.own.grown (grown_setCell (World.grownBy.refl W (some b12)) i _) (.inr h.own.2.1), ⟨h.rj.st.os, h.rj.st.tape, h.rj.st.output, by simpa [World.setCell] using h.rj.st.size, fun j hj hv => ?_, h.rj.st.own⟩⟩, h.hf.far h.ne.1 _, ?_, h.hg.far h.ne.2 _, h.own, h.ne, h.up⟩
  · exact (Below.heap_setCell W ⟨b12, i, none⟩ u j (by show j ≠ b12; have := h.up.1; omega)).trans (h.rj.st.block j hj hv)
  · rw [← he]; exact h.hb.put i u
theorem MidR.app (h : MidR base b10 b12 b13 w1 v1 nm f g L why js W v) {W0 W1 : World} {v' : Value} {L' : List BrkV} (hb : Below W.heap.size W W0) (hown : ErR W1 base v' L') (hg : W0.grownBy W1 v.ownBlock)
    (hv : v'.ownBlock = v.ownBlock ∨ v'.ownBlock = some W0.heap.size) : MidR base b10 b12 b13 w1 v1 nm f g L' why js W1 v' := by
  have st := (GrSt.of_below (v := v) hb).trans (GrSt.of_grown hg hv)
  have far : ∀ {i : Nat}, i < W.heap.size → v.ownBlock ≠ some i → v'.ownBlock ≠ some i := fun {i} hi hn e => by
    rcases hv with e' | e'
    · rw [e'] at e; exact hn e
    · rw [e'] at e; injection e with e; have := hb.size; omega
  exact ⟨⟨hown, h.rj.st.trans st⟩, st.blk h.hf h.own.1, st.blk h.hb h.own.2.1, st.blk h.hg h.own.2.2, ⟨far h.hf.lt h.own.1, far h.hb.lt h.own.2.1, far h.hg.lt h.own.2.2⟩, h.ne, h.up⟩
end
theorem PlPost.form {α : Type} {l : List α} {p : α → Bool} {w w' : World} {e : Ending} (h : PlPost l p w e w') : ∃ r : Int, e = .returned (.int .i64 r) ∧ Below w.heap.size w w' ∧ Hid ((r = -1 ∧ l.find? p = none) ∨ ∃ (k : Nat) (x : α), r = (k : Int) ∧ l[k]? = some x ∧ l.find? p = some x) := by
  obtain ⟨hb, ⟨h1, h2⟩ | ⟨k, x, h1, h2, h3⟩⟩ := h
  · exact ⟨-1, h2, hb, Lib.hid (.inl ⟨rfl, h1⟩)⟩
  · exact ⟨k, h3, hb, Lib.hid (.inr ⟨k, x, rfl, h1, h2⟩)⟩
/-- A new list of breaks of one's own. -/
def NewR (w : World) (L : List BrkV) (e : Ending) (w' : World) : Prop := ∃ v, e = .returned v ∧ Hid (ErR w' w.heap.size v L ∧ Below w.heap.size w w')
set_option maxHeartbeats 1000000 in
set_option maxRecDepth 100000 in
theorem messagesR_any (a b : SchV) (B : Nat) (w : World) (hra : SchR w B a) (hza : SchZ a) (hrb : SchR w B b) (hzb : SchZ b) (hB : B ≤ w.heap.size) :
    Calls Try.prog 17 #[.agg a.cells, .agg b.cells] w (NewR w (a.ms.flatMap (msgBrk b))) := by
  have HLM := Lib.hid (msgs_le b hra hza)
  have HFM := Lib.hid fun (nm : ByteArray) (W : World) (h : Below w.heap.size w W) => findMessageR_any b nm B W (hrb.below (h.mono hB)) hzb (Nat.le_trans hB h.size)
  have HRA := Lib.hid hra
  have HRB := Lib.hid hrb
  have HZA := Lib.hid hza
  have HZB := Lib.hid hzb
  have HBs := Lib.hid hB
  have hm20 := hza.m
  have hm20b := hzb.m
  have HQ : Hid (∀ m, msgBrk b m = match b.ms.find? (fun n => sameT n.nm m.nm) with | none => bothL ⟨m.nm, empT, 0, 1, false⟩ | some n => m.fs.flatMap (fldBrk m.nm n.fs)) := Lib.hid fun _ => rfl
  generalize hqm : msgBrk b = qm at *
  clear hra hza hrb hzb hB hqm
  obtain ⟨mA, mn, mc, ms, eA, en, ec, es, sA, sn, sc, ss⟩ := a
  obtain ⟨mA', mn', mc', ms', eA', en', ec', es', sA', sn', sc', ss'⟩ := b
  simp only [SchV.cells] at HLM HFM hm20 hm20b HQ ⊢
  have W1 : Below w.heap.size w ((w.alloc (.cells #[.slice mA mn mc, .slice eA en ec, .slice sA sn sc] 26)).alloc (.cells #[.slice mA' mn' mc', .slice eA' en' ec', .slice sA' sn' sc'] 26)) := ((Below.refl w.heap.size w).alloc (Nat.le_refl _) _).alloc (by simp) _
  have W2 : Blk ((w.alloc (.cells #[.slice mA mn mc, .slice eA en ec, .slice sA sn sc] 26)).alloc (.cells #[.slice mA' mn' mc', .slice eA' en' ec', .slice sA' sn' sc'] 26)) w.heap.size 26 #[.slice mA mn mc, .slice eA en ec, .slice sA sn sc] := (Blk.new w 26 #[.slice mA mn mc, .slice eA en ec, .slice sA sn sc]).alloc _
  have W3 : Blk ((w.alloc (.cells #[.slice mA mn mc, .slice eA en ec, .slice sA sn sc] 26)).alloc (.cells #[.slice mA' mn' mc', .slice eA' en' ec', .slice sA' sn' sc'] 26)) (w.heap.size + 1) 26 #[.slice mA' mn' mc', .slice eA' en' ec', .slice sA' sn' sc'] := (by
    simpa using Blk.new (w.alloc (.cells #[.slice mA mn mc, .slice eA en ec, .slice sA sn sc] 26)) 26 #[.slice mA' mn' mc', .slice eA' en' ec', .slice sA' sn' sc'])
  go_enter Try.func17, Try.ntmps17
  go_wp2
  generalize ((w.alloc (.cells #[.slice mA mn mc, .slice eA en ec, .slice sA sn sc] 26)).alloc (.cells #[.slice mA' mn' mc', .slice eA' en' ec', .slice sA' sn' sc'] 26)) = w3 at *
  have HB3 := Lib.hid W1
  have HBA := Lib.hid W2
  have HBB := Lib.hid W3
  clear W1 W2 W3
  go_loopw [6, 5] (fun i z wr => ∃ (k : Nat) (v : Value), k ≤ mn ∧ i = .int .i64 (k : Int) ∧ v = z ∧ Hid (RJ w3.heap.size w3 (.slice none 0 0) ((ms.take k).flatMap qm) wr v)) (fun i _ _ => mn - (intOf i).toNat)
  case atStart => exact ⟨0, _, Nat.zero_le _, rfl, rfl, Lib.hid ⟨by simpa using Ew.nil _ _ _ _ _, GrSt.refl _ _⟩⟩
  case round =>
    obtain ⟨k, z1, hk, rfl, rfl, hh⟩ := hrel
    have hu : Below w3.heap.size w3 wr := hh.out.st.under (fun g e => by cases e) (Nat.le_refl _)
    have hb1 : Below w.heap.size w wr := HB3.out.trans (hu.mono HB3.out.size)
    have hbA := HBA.out.below hu HBA.out.lt
    have hbB := HBB.out.below hu HBB.out.lt
    have s20 := hbA.cell 0
    have s30 := hbB.cell 0
    have s31 := hbB.cell 1
    have s32 := hbB.cell 2
    have lA := hbA.lt
    have lB := hbB.lt
    simp only [List.getElem?_toArray, List.getElem?_cons_zero, List.getElem?_cons_succ] at s20 s30 s31 s32
    have HU := Lib.hid hu
    have HB1 := Lib.hid hb1
    clear hu hb1 hbA hbB
    by_cases hlt : k < mn
    · obtain ⟨ad, x, e, hx, a0, a1⟩ := (HRA.out.below (HB1.out.mono HBs.out)).m.atM hlt
      have e : mA = some ad := e
      subst e
      have HX := Lib.hid (show ms[k]? = some x from hx)
      have HFT := Lib.hid (flat_take qm ms k x hx)
      have HQx := Lib.hid (HQ.out x)
      have i0 : (0 : Int) ≤ (k : Int) := by omega
      have i1 : (k : Int) < (mn : Int) := by omega
      have hl1 := HLM.out k
      generalize hL1 : (ms.take k).flatMap qm = L1 at *
      have HL1 := Lib.hid hl1
      have HFx := Lib.hid (HRA.out.f x (List.mem_of_getElem? hx))
      have hfn : x.fn ≤ 40 := HZA.out.f x (List.mem_of_getElem? hx)
      obtain ⟨nm, xA, xn, xc, xs⟩ := x
      simp only at a0 a1 HQx HFx hfn
      have hb2 : Below wr.heap.size wr (wr.alloc (.cells #[.string nm, .slice xA xn xc] 45)) := (Below.refl _ _).alloc (Nat.le_refl _) _
      have HB2 := Lib.hid hb2
      have HM2 := Lib.hid (Blk.new wr 45 #[.string nm, .slice xA xn xc])
      have HCA := Lib.hid (HFM.out nm (wr.alloc (.cells #[.string nm, .slice xA xn xc] 45)) (HB1.out.trans (hb2.mono HB1.out.size)))
      clear hx hl1 hL1 hb2
      go_wp2_with (with_reducible refine HCA.out.mono ?_
                   rintro e w5 ⟨g5, hc5⟩
                   have HB5 := Lib.hid (HB2.out.trans (g5.mono HB2.out.size))
                   have hm5 := HM2.out.below g5 HM2.out.lt
                   have r0 := hm5.cell 0
                   have r1 := hm5.cell 1
                   have lr5 := hm5.lt
                   have HM5 := Lib.hid hm5
                   simp only [List.getElem?_toArray, List.getElem?_cons_zero, List.getElem?_cons_succ] at r0 r1
                   clear g5 hm5
                   rcases hc5 with ⟨hf5, rfl⟩ | ⟨kk, n, hkk, hf5, rfl⟩
                   all_goals
                     have HF5 := Lib.hid hf5
                     clear hf5)
      · have HW := Lib.hid (hh.out.below HB5.out)
        refine (bothR_any w3.heap.size w5 z1 L1 ⟨nm, empT, 0, 1, false⟩ HW.out.own (by have := HU.out.size; have := HB5.out.size; omega) (by have := HL1.out; omega)).mono ?_
        rintro e w7 ⟨A7, c7, rfl, h7⟩
        generalize Value.slice A7 (L1 ++ bothL ⟨nm, empT, 0, 1, false⟩).length c7 = v7 at *
        have HJ7 := Lib.hid (show RJ w3.heap.size w3 (.slice none 0 0) ((ms.take (k + 1)).flatMap qm) w7 v7 from ⟨by
          rw [HFT.out, HQx.out, HF5.out]
          exact h7.out.own, HW.out.st.trans h7.out.st⟩)
        clear h7
        go_wp2
        exact ⟨⟨k + 1, _, by omega, by simp, rfl, HJ7⟩, by simp [intOf]; omega⟩
      · have hkn : kk < mn' := by
          have h := (List.getElem?_eq_some_iff.1 hkk).1
          rw [HRB.out.m.1] at h
          exact h
        have hk0 : ¬ ((kk : Int) < 0) := by omega
        have HKK := Lib.hid hkk
        have HW := Lib.hid (hh.out.below HB5.out)
        have HNF : Hid (∀ x : FldV, (fldBrk nm n.fs x).length ≤ 2) := Lib.hid (two_len nm n.fs)
        have HQ2 := Lib.hid HQx.out
        rw [HF5.out] at HQ2
        have HFN := Lib.hid (HRB.out.f n (List.mem_of_getElem? hkk))
        have hgn : n.fn ≤ 40 := HZB.out.f n (List.mem_of_getElem? hkk)
        obtain ⟨nn, nA, gn, gc, gs⟩ := n
        simp only at HQ2 HNF HFN hgn
        have HB5w := Lib.hid (HB1.out.trans (HB5.out.mono HB1.out.size))
        have l5 := HB5.out.size
        have HZ1 : Hid (z1.ownBlock ≠ some wr.heap.size) := Lib.hid (fun e => by have := (hh.out.own.lt _ e).2; omega)
        clear hkk HQx HF5 hh
        go_wp2
        generalize hq7 : wr.heap.size = q7 at *
        go_loopw [9, 5] (fun i z wq => ∃ (j : Nat) (v : Value), j ≤ xn ∧ i = .int .i64 (j : Int) ∧ v = z ∧ Hid (RJ w3.heap.size w5 z1 (L1 ++ (xs.take j).flatMap (fldBrk nm gs)) wq v)) (fun i _ _ => xn - (intOf i).toNat)
        case atStart => exact ⟨0, _, Nat.zero_le _, rfl, rfl, Lib.hid ⟨by simpa using HW.out.own, GrSt.refl _ _⟩⟩
        case round =>
          obtain ⟨j, v1, hj, rfl, rfl, hq⟩ := hrel
          have hu2 : Below w3.heap.size w5 wr := hq.out.st.under (fun g e => (HW.out.own.lt g e).1) (by have := HU.out.size; omega)
          have hb6 : Below w.heap.size w wr := HB5w.out.trans (hu2.mono HB3.out.size)
          by_cases hjl : j < xn
          · obtain ⟨ad2, y, rfl, hy, b0, b1, b2, b3, b4, b5, b6, b7, b8, b9⟩ := (HFx.out.below (hb6.mono HBs.out)).atF hjl
            have HY := Lib.hid hy
            have HFT2 := Lib.hid (flat_take (fldBrk nm gs) xs j y hy)
            have j0 : (0 : Int) ≤ (j : Int) := by omega
            have j1 : (j : Int) < (xn : Int) := by omega
            have kk0 : (0 : Int) ≤ (kk : Int) := by omega
            have kk1 : (kk : Int) < (mn' : Int) := by omega
            have hm6 := hq.out.st.blk HM5.out HZ1.out
            have r0 := hm6.cell 0
            have r1 := hm6.cell 1
            have lr6 := hm6.lt
            have hB6 := HBB.out.below (HU.out.trans ((HB5.out.mono (by rw [← hq7]; exact HU.out.size)).trans (hu2.mono (Nat.le_refl _)))) HBB.out.lt
            have s30 := hB6.cell 0
            have lB6 := hB6.lt
            simp only [List.getElem?_toArray, List.getElem?_cons_zero, List.getElem?_cons_succ] at r0 r1 s30
            obtain ⟨ad3, n3, e3, hn3, d0, d1⟩ := (HRB.out.below (hb6.mono HBs.out)).m.atM hkn
            have e3 : mA' = some ad3 := e3
            subst e3
            have en3 : n3 = ⟨nn, nA, gn, gc, gs⟩ := Option.some.inj (hn3.symm.trans HKK.out)
            subst en3
            simp only at d0 d1
            have hl2 : (L1 ++ (xs.take j).flatMap (fldBrk nm gs)).length ≤ 10000 := by
              have := HL1.out
              have := flat_le (fldBrk nm gs) HNF.out (xs.take j)
              rw [List.length_append]
              rw [List.length_take] at this
              omega
            generalize hL2 : L1 ++ (xs.take j).flatMap (fldBrk nm gs) = L2 at hq hl2
            have HL2 := Lib.hid hl2
            have HLE := Lib.hid hL2
            have HB6 := Lib.hid hb6
            obtain ⟨f1, f2, f3, f4, fa, fb, fcc, fp, fq, fr⟩ := y
            simp only at b0 b1 b2 b3 b4 b5 b6 b7 b8 b9
            clear hn3 hy hm6 hu2 hb6 hB6 hl2 hL2
            have hadB : ad3.block < wr.heap.size := by
              obtain ⟨ad', e', h1, h2, _⟩ := (HRB.out.below (HB6.out.mono HBs.out)).m.2 kk _ HKK.out
              have e' : some ad3 = some ad' := e'
              cases e'
              exact h2
            have hBb := HBB.out.below (HU.out.trans ((HB5.out.mono (by rw [← hq7]; exact HU.out.size)).trans (hq.out.st.under (fun g e => (HW.out.own.lt g e).1) (by have := HU.out.size; omega)))) HBB.out.lt
            have HK6 : Hid (∀ W', Below wr.heap.size wr W' → (W'.cell? ⟨w.heap.size + 1, 0, none⟩ = some (.slice (some ad3) mn' mc') ∧ W'.cell? (ad3.add (kk * 2)) = some (.string nn) ∧ W'.cell? ⟨(ad3.add (kk * 2)).block, (ad3.add (kk * 2)).off + 1, none⟩ = some (.slice nA gn gc) ∧ W'.cell? ⟨q7, 0, none⟩ = some (.string nm))) := Lib.hid fun W' hb =>
              ⟨by rw [← s30]; exact cell_same (hb.block _ lB6), by rw [← d0]; exact cell_same (by rw [add_block]; exact hb.block _ hadB), by rw [← d1]; exact cell_same (by show W'.heap[(ad3.add (kk * 2)).block]? = wr.heap[(ad3.add (kk * 2)).block]?; rw [add_block]; exact hb.block _ hadB), by rw [← r0]; exact cell_same (hb.block _ lr6)⟩
            have hb7' : Below wr.heap.size wr (wr.alloc (.cells #[.string f1, .string f2, .string f3, .string f4, .int .i64 fa, .int .i64 fb, .int .i64 fcc, .bool fp, .bool fq, .bool fr] 42)) := (Below.refl _ _).alloc (Nat.le_refl _) _
            have HB7 := Lib.hid hb7'
            have HF7 := Lib.hid (show Blk (wr.alloc (.cells #[.string f1, .string f2, .string f3, .string f4, .int .i64 fa, .int .i64 fb, .int .i64 fcc, .bool fp, .bool fq, .bool fr] 42)) wr.heap.size 42 (FldV.cells ⟨f1, f2, f3, f4, fa, fb, fcc, fp, fq, fr⟩) from Blk.new wr 42 (FldV.cells ⟨f1, f2, f3, f4, fa, fb, fcc, fp, fq, fr⟩))
            have hs7 := HK6.out _ hb7'
            have hs74 := HF7.out.cell 4
            have HO6 : Hid (v1.ownBlock ≠ some wr.heap.size) := Lib.hid fun e => by have := (hq.out.own.lt _ e).2; omega
            have l7 : wr.heap.size < (wr.alloc (.cells #[.string f1, .string f2, .string f3, .string f4, .int .i64 fa, .int .i64 fb, .int .i64 fcc, .bool fp, .bool fq, .bool fr] 42)).heap.size := by simp
            have HFO : Hid (∀ W', Below wr.heap.size wr W' → Calls Try.prog 31 #[.agg #[.string nn, .slice nA gn gc], .int .i64 fa] W' (PlPost gs (fun f => f.num == fa) W')) := Lib.hid fun W' hb => fieldOfR_any nn B nA gn gc gs fa W' (by omega) (HFN.out.below ((HB6.out.trans (hb.mono HB6.out.size)).mono HBs.out)) (by have := HB6.out.size; have := hb.size; have := HBs.out; omega)
            simp only [FldV.cells, List.getElem?_toArray, List.getElem?_cons_zero, List.getElem?_cons_succ] at hs74
            clear hBb hb7'
            go_wp2
            generalize hw7 : wr.alloc (.cells #[.string f1, .string f2, .string f3, .string f4, .int .i64 fa, .int .i64 fb, .int .i64 fcc, .bool fp, .bool fq, .bool fr] 42) = w7 at *
            obtain ⟨p1, p2, p3, p4⟩ := hs7
            go_region_held3 (fun W' => W'.cell? ⟨w.heap.size + 1, 0, none⟩ = some (.slice (some ad3) mn' mc') ∧ W'.cell? (ad3.add (kk * 2)) = some (.string nn) ∧ W'.cell? ⟨(ad3.add (kk * 2)).block, (ad3.add (kk * 2)).off + 1, none⟩ = some (.slice nA gn gc) ∧ W'.cell? ⟨wr.heap.size, 4, none⟩ = some (.int .i64 fa)) (first | exact ⟨p1, p2, p3, hs74⟩ | exact HS8.out) (first
              | (go_simp; go_at_call 31; refine (HFO.out _ (by exact below_drewN HB7.out 1)).mono ?_; rintro e w8 hp8; obtain ⟨r8, rfl, g8, hr8⟩ := hp8.form; have HB8 := Lib.hid (HB7.out.trans ((Below.trans (below_drewN (Below.refl w7.heap.size w7) 1) g8).mono HB7.out.size)); have HF8 := Lib.hid (HF7.out.below (Below.trans (below_drewN (Below.refl w7.heap.size w7) 1) g8) HF7.out.lt); have HS8 := Lib.hid (show w8.cell? ⟨w.heap.size + 1, 0, none⟩ = some (.slice (some ad3) mn' mc') ∧ w8.cell? (ad3.add (kk * 2)) = some (.string nn) ∧ w8.cell? ⟨(ad3.add (kk * 2)).block, (ad3.add (kk * 2)).off + 1, none⟩ = some (.slice nA gn gc) ∧ w8.cell? ⟨wr.heap.size, 4, none⟩ = some (.int .i64 fa) from ⟨(HK6.out _ HB8.out).1, (HK6.out _ HB8.out).2.1, (HK6.out _ HB8.out).2.2.1, HF8.out.cell 4⟩); clear hp8 g8))
            have HJ8 := Lib.hid (hq.out.below HB8.out)
            obtain ⟨p1', p2', p3', p4'⟩ := HK6.out _ HB8.out
            have x0 := HF8.out.cell 0
            have x1 := HF8.out.cell 1
            have x2 := HF8.out.cell 2
            have x3 := HF8.out.cell 3
            have x4 := HF8.out.cell 4
            have x5 := HF8.out.cell 5
            have x6 := HF8.out.cell 6
            have x7 := HF8.out.cell 7
            have x8 := HF8.out.cell 8
            have x9 := HF8.out.cell 9
            simp only [FldV.cells, BrkV.cells, List.getElem?_toArray, List.getElem?_cons_zero, List.getElem?_cons_succ] at x0 x1 x2 x3 x4 x5 x6 x7 x8 x9
            have l8 := HF8.out.lt
            have lr8 : q7 < w8.heap.size := Nat.lt_of_lt_of_le lr6 HB8.out.size
            have lB8 : w.heap.size + 1 < w8.heap.size := Nat.lt_of_lt_of_le lB6 HB8.out.size
            have lad8 : ad3.block < w8.heap.size := Nat.lt_of_lt_of_le hadB HB8.out.size
            clear p1 p2 p3 p4 hs74 l7
            rcases hr8.out with ⟨rfl, hf8⟩ | ⟨l, y8, rfl, hl8, hf8⟩
            · have HF9 := Lib.hid (show fldAt gs fa = none from hf8)
              clear hf8
              go_wp2_with fail
              have hb9 : Below w8.heap.size w8 (w8.alloc (.cells #[.string nm, .string f1, .int .i64 fa, .int .i64 1, .bool false] 32)) := (Below.refl _ _).alloc (Nat.le_refl _) _
              have HJ9 := Lib.hid (HJ8.out.below hb9)
              clear hb9
              refine (bothR_any w3.heap.size _ v1 L2 ⟨nm, f1, fa, 1, false⟩ HJ9.out.own (by have := HJ9.out.st.size; have := HU.out.size; omega) (by have := HL2.out; omega)).mono ?_
              rintro e w10 ⟨A10, c10, rfl, h10⟩
              generalize Value.slice A10 (L2 ++ bothL ⟨nm, f1, fa, 1, false⟩).length c10 = v10 at *
              have HJ10 := Lib.hid (show RJ w3.heap.size w5 z1 (L1 ++ (xs.take (j + 1)).flatMap (fldBrk nm gs)) w10 v10 from ⟨by
                rw [HFT2.out, ← List.append_assoc, HLE.out]
                have e7 : fldBrk nm gs ⟨f1, f2, f3, f4, fa, fb, fcc, fp, fq, fr⟩ = bothL ⟨nm, f1, fa, 1, false⟩ := by
                  unfold fldBrk
                  show (match fldAt gs fa with | none => _ | some g => _) = _
                  rw [HF9.out]
                rw [e7]
                exact h10.out.own, HJ9.out.st.trans h10.out.st⟩)
              clear h10
              go_wp2
              exact ⟨⟨j + 1, _, by omega, by simp, rfl, HJ10⟩, by simp [intOf]; omega⟩
            · have hle8 : wr.heap.size < w8.heap.size := l8
              obtain ⟨g1, g2, g3, g4, ga, gb, gcc, gp, gq, gr⟩ := y8
              have HF9 := Lib.hid (show fldAt gs fa = some ⟨g1, g2, g3, g4, ga, gb, gcc, gp, gq, gr⟩ from hf8)
              have hln : l < gn := by
                have h := (List.getElem?_eq_some_iff.1 hl8).1
                rw [HFN.out.1] at h
                exact h
              have hl0 : ¬ ((l : Int) < 0) := by omega
              have l0 : (0 : Int) ≤ (l : Int) := by omega
              have l1 : (l : Int) < (gn : Int) := by omega
              have hb9 : Below wr.heap.size wr (w8.alloc (.cells #[.string nm, .string f1, .int .i64 fa, .int .i64 1, .bool false] 32)) := HB8.out.alloc HB8.out.size _
              obtain ⟨ad4, y4, rfl, hy4, y0, y1, y2, y3, y4', y5, y6, y7, y8, y9⟩ := (HFN.out.below ((HB6.out.trans (hb9.mono HB6.out.size)).mono HBs.out)).atF hln
              have ey : y4 = ⟨g1, g2, g3, g4, ga, gb, gcc, gp, gq, gr⟩ := Option.some.inj (hy4.symm.trans hl8)
              subst ey
              simp only at y0 y1 y2 y3 y4' y5 y6 y7 y8 y9
              obtain ⟨o1, o2, o3, o4⟩ := HK6.out _ hb9
              have HM10 : Hid (MidR w3.heap.size wr.heap.size w8.heap.size (w8.heap.size + 1) w5 z1 nm ⟨f1, f2, f3, f4, fa, fb, fcc, fp, fq, fr⟩ ⟨g1, g2, g3, g4, ga, gb, gcc, gp, gq, gr⟩ L2 1 false ((w8.alloc (.cells #[.string nm, .string f1, .int .i64 fa, .int .i64 1, .bool false] 32)).alloc (.cells #[.string g1, .string g2, .string g3, .string g4, .int .i64 ga, .int .i64 gb, .int .i64 gcc, .bool gp, .bool gq, .bool gr] 42)) v1) := Lib.hid
                ⟨HJ8.out.below (((Below.refl _ _).alloc (Nat.le_refl _) _).alloc (by simp) _), (HF8.out.alloc _).alloc _, (Blk.new w8 _ _).alloc _, by simpa [FldV.cells] using Blk.new (w8.alloc (.cells #[.string nm, .string f1, .int .i64 fa, .int .i64 1, .bool false] 32)) 42 (FldV.cells ⟨g1, g2, g3, g4, ga, gb, gcc, gp, gq, gr⟩),
                  ⟨HO6.out, fun e => by have := (HJ8.out.own.lt _ e).2; omega, fun e => by have := (HJ8.out.own.lt _ e).2; omega⟩, ⟨by omega, by omega⟩, by have := HJ8.out.st.size; omega, fun e => by have := (HW.out.own.lt _ e).2; have := HJ8.out.st.size; omega⟩
              clear hl8 hf8 hy4 hb9
              go_wp2_with fail
              clear o1 o2 o3 o4 y0 y1 y2 y3 y4' y5 y6 y7 y8 y9 x0 x1 x2 x3 x4 x5 x6 x7 x8 x9 p1' p2' p3' p4' HFO HK6 HB7 HF7 HS8 HB8 HF8 HJ8 hr8
              refine (wire_any ⟨f1, f2, f3, f4, fa, fb, fcc, fp, fq, fr⟩ ⟨g1, g2, g3, g4, ga, gb, gcc, gp, gq, gr⟩ _).mono ?_
              rintro e w11 ⟨rfl, g11⟩
              have hM11 := HM10.out.below g11
              obtain ⟨kw, hkw⟩ : ∃ kw, kw = wireWhy ⟨f1, f2, f3, f4, fa, fb, fcc, fp, fq, fr⟩ ⟨g1, g2, g3, g4, ga, gb, gcc, gp, gq, gr⟩ := ⟨_, rfl⟩
              rw [← hkw]
              have HKW := Lib.hid hkw
              clear hkw g11 HM10
              have HM11 := Lib.hid hM11
              have lb := hM11.hb.lt
              have lf := hM11.hf.lt
              have lg := hM11.hg.lt
              have e0 := hM11.hb.cell 0
              have e1 := hM11.hb.cell 1
              have e2 := hM11.hb.cell 2
              have e3 := hM11.hb.cell 3
              have e4 := hM11.hb.cell 4
              have q3 := hM11.hb.frozen 3
              simp only [BrkV.cells, List.getElem?_toArray, List.getElem?_cons_zero, List.getElem?_cons_succ] at e0 e1 e2 e3 e4
              have x0 := hM11.hf.cell 0
              have x1 := hM11.hf.cell 1
              have x2 := hM11.hf.cell 2
              have x3 := hM11.hf.cell 3
              have x4 := hM11.hf.cell 4
              have x5 := hM11.hf.cell 5
              have x6 := hM11.hf.cell 6
              have x7 := hM11.hf.cell 7
              have x8 := hM11.hf.cell 8
              have x9 := hM11.hf.cell 9
              have y0 := hM11.hg.cell 0
              have y1 := hM11.hg.cell 1
              have y2 := hM11.hg.cell 2
              have y3 := hM11.hg.cell 3
              have y4 := hM11.hg.cell 4
              have y5 := hM11.hg.cell 5
              have y6 := hM11.hg.cell 6
              have y7 := hM11.hg.cell 7
              have y8 := hM11.hg.cell 8
              have y9 := hM11.hg.cell 9
              simp only [FldV.cells, BrkV.cells, List.getElem?_toArray, List.getElem?_cons_zero, List.getElem?_cons_succ] at x0 x1 x2 x3 x4 x5 x6 x7 x8 x9 y0 y1 y2 y3 y4 y5 y6 y7 y8 y9
              clear hM11
              by_cases hk0 : kw = 0
              rotate_left
              focus
                have hW : L2 ++ [⟨nm, f1, fa, kw, false⟩] = L2 ++ whyL ⟨nm, f1, fa, 0, false⟩ kw := by rw [whyL, if_neg hk0]
                have HWL := Lib.hid hW
                clear hW
                have HM12 := Lib.hid (HM11.out.put 3 (.int .i64 kw) (why' := kw) (js' := false) (by rfl))
                have HO12 := Lib.hid (HM12.out.rj.own.below ((Below.refl _ _).alloc (Nat.le_refl _) (.cells #[.string nm, .string f1, .int .i64 fa, .int .i64 kw, .bool false] 32)))
                have HR12 : Hid (RS BrkV.cells 5 ((w11.setCell ⟨w8.heap.size, 3, none⟩ (.int .i64 kw)).alloc (.cells #[.string nm, .string f1, .int .i64 fa, .int .i64 kw, .bool false] 32)) (w11.heap.size + 1) (some ⟨w11.heap.size, 0, none⟩) 1 [⟨nm, f1, fa, kw, false⟩]) := Lib.hid (by
                  have h := (Ew.lit (k := 5) BrkV.cells 32 (fun _ => rfl) (w11.setCell ⟨w8.heap.size, 3, none⟩ (.int .i64 kw)) [⟨nm, f1, fa, kw, false⟩] (by simp)).rs (fun _ => rfl) (by omega)
                  have h2 : RS BrkV.cells 5 ((w11.setCell ⟨w8.heap.size, 3, none⟩ (.int .i64 kw)).alloc (.cells #[.string nm, .string f1, .int .i64 fa, .int .i64 kw, .bool false] 32)) _ (some ⟨(w11.setCell ⟨w8.heap.size, 3, none⟩ (.int .i64 kw)).heap.size, 0, none⟩) 1 [⟨nm, f1, fa, kw, false⟩] := h
                  simpa using h2)
                go_wp2_with (at_builtin
                             go_loud (refine wpList_app_e elBrkR _ rfl (.tmp 85) (.tmp 87) rfl w3.heap.size v1 L2 rfl HO12.out (w11.heap.size + 1) (some ⟨w11.heap.size, 0, none⟩) 1 1 [⟨nm, f1, fa, kw, false⟩] rfl HR12.out (by have := HL2.out; omega) (by have := HM12.out.rj.st.size; have := HU.out.size; simp [World.setCell] at this ⊢; omega) ?_)
                             intro A14 c14 w14 hown hg hv
                             generalize Value.slice A14 (L2.length + 1) c14 = v14 at *
                             have hM14 := HM12.out.app ((Below.refl _ _).alloc (Nat.le_refl _) (.cells #[.string nm, .string f1, .int .i64 fa, .int .i64 kw, .bool false] 32)) hown hg hv
                             rw [HWL.out] at hM14
                             clear x0 x1 x2 x3 x4 x5 x6 x7 x8 x9 y0 y1 y2 y3 y4 y5 y6 y7 y8 y9
                             have x0 := hM14.hf.cell 0
                             have x1 := hM14.hf.cell 1
                             have x2 := hM14.hf.cell 2
                             have x3 := hM14.hf.cell 3
                             have x4 := hM14.hf.cell 4
                             have x5 := hM14.hf.cell 5
                             have x6 := hM14.hf.cell 6
                             have x7 := hM14.hf.cell 7
                             have x8 := hM14.hf.cell 8
                             have x9 := hM14.hf.cell 9
                             have y0 := hM14.hg.cell 0
                             have y1 := hM14.hg.cell 1
                             have y2 := hM14.hg.cell 2
                             have y3 := hM14.hg.cell 3
                             have y4 := hM14.hg.cell 4
                             have y5 := hM14.hg.cell 5
                             have y6 := hM14.hg.cell 6
                             have y7 := hM14.hg.cell 7
                             have y8 := hM14.hg.cell 8
                             have y9 := hM14.hg.cell 9
                             simp only [FldV.cells, BrkV.cells, List.getElem?_toArray, List.getElem?_cons_zero, List.getElem?_cons_succ] at x0 x1 x2 x3 x4 x5 x6 x7 x8 x9 y0 y1 y2 y3 y4 y5 y6 y7 y8 y9
                             have HM15 := Lib.hid hM14
                             clear hM14 hown hg hv)
              rotate_right
              focus
                have HM15 := Lib.hid (HM11.out.put 3 (.int .i64 kw) (why' := kw) (js' := false) (by rfl))
                go_wp2_with fail
                have hW : MidR w3.heap.size wr.heap.size w8.heap.size (w8.heap.size + 1) w5 z1 nm ⟨f1, f2, f3, f4, fa, fb, fcc, fp, fq, fr⟩ ⟨g1, g2, g3, g4, ga, gb, gcc, gp, gq, gr⟩ (L2 ++ whyL ⟨nm, f1, fa, 0, false⟩ kw) kw false (w11.setCell ⟨w8.heap.size, 3, none⟩ (.int .i64 0)) v1 := by
                  rw [whyL, if_pos hk0, List.append_nil, show Value.int .i64 0 = .int .i64 kw by rw [hk0]]
                  exact HM15.out
                clear HM15 x0 x1 x2 x3 x4 x5 x6 x7 x8 x9 y0 y1 y2 y3 y4 y5 y6 y7 y8 y9
                have HM15 := Lib.hid hW
                clear hW
                generalize (w11.setCell ⟨w8.heap.size, 3, none⟩ (.int .i64 0)) = w14 at *
                generalize v1 = v14 at *
              all_goals
                clear hk0 e0 e1 e2 e3 e4 q3 lb lf lg HM11
                have hl3 : (L2 ++ whyL ⟨nm, f1, fa, 0, false⟩ kw).length ≤ 10010 := by
                  have := HL2.out
                  rw [List.length_append]
                  unfold whyL
                  split <;> simp <;> omega
                generalize hL3 : L2 ++ whyL ⟨nm, f1, fa, 0, false⟩ kw = L3 at *
                have HL3 := Lib.hid hl3
                have HL3E := Lib.hid hL3
                clear hl3 hL3
                refine (json_any ⟨f1, f2, f3, f4, fa, fb, fcc, fp, fq, fr⟩ ⟨g1, g2, g3, g4, ga, gb, gcc, gp, gq, gr⟩ _).mono ?_
                rintro e w16 ⟨rfl, g16⟩
                have hM16 := HM15.out.below g16
                obtain ⟨kj, hkj⟩ : ∃ kj, kj = jsonWhy ⟨f1, f2, f3, f4, fa, fb, fcc, fp, fq, fr⟩ ⟨g1, g2, g3, g4, ga, gb, gcc, gp, gq, gr⟩ := ⟨_, rfl⟩
                rw [← hkj]
                have HKJ := Lib.hid hkj
                clear hkj g16 HM15
                have HM16 := Lib.hid hM16
                have lb := hM16.hb.lt
                have e0 := hM16.hb.cell 0
                have e1 := hM16.hb.cell 1
                have e2 := hM16.hb.cell 2
                have e3 := hM16.hb.cell 3
                have e4 := hM16.hb.cell 4
                have q3 := hM16.hb.frozen 3
                have q4 := hM16.hb.frozen 4
                simp only [BrkV.cells, List.getElem?_toArray, List.getElem?_cons_zero, List.getElem?_cons_succ] at e0 e1 e2 e3 e4
                clear hM16
                have HM17 := Lib.hid ((HM16.out.put 3 (.int .i64 kj) (why' := kj) (js' := false) (by rfl)).put 4 (.bool true) (why' := kj) (js' := true) (by rfl))
                by_cases hj0 : kj = 0
                rotate_left
                focus
                  have hW : L3 ++ [⟨nm, f1, fa, kj, true⟩] = L3 ++ whyL ⟨nm, f1, fa, 0, true⟩ kj := by rw [whyL, if_neg hj0]
                  have HWL := Lib.hid hW
                  clear hW
                  have HO17 := Lib.hid (HM17.out.rj.own.below ((Below.refl _ _).alloc (Nat.le_refl _) (.cells #[.string nm, .string f1, .int .i64 fa, .int .i64 kj, .bool true] 32)))
                  have HR17 : Hid (RS BrkV.cells 5 (((w16.setCell ⟨w8.heap.size, 3, none⟩ (.int .i64 kj)).setCell ⟨w8.heap.size, 4, none⟩ (.bool true)).alloc (.cells #[.string nm, .string f1, .int .i64 fa, .int .i64 kj, .bool true] 32)) (w16.heap.size + 1) (some ⟨w16.heap.size, 0, none⟩) 1 [⟨nm, f1, fa, kj, true⟩]) := Lib.hid (by
                    have h := (Ew.lit (k := 5) BrkV.cells 32 (fun _ => rfl) ((w16.setCell ⟨w8.heap.size, 3, none⟩ (.int .i64 kj)).setCell ⟨w8.heap.size, 4, none⟩ (.bool true)) [⟨nm, f1, fa, kj, true⟩] (by simp)).rs (fun _ => rfl) (by omega)
                    have h2 : RS BrkV.cells 5 (((w16.setCell ⟨w8.heap.size, 3, none⟩ (.int .i64 kj)).setCell ⟨w8.heap.size, 4, none⟩ (.bool true)).alloc (.cells #[.string nm, .string f1, .int .i64 fa, .int .i64 kj, .bool true] 32)) _ (some ⟨((w16.setCell ⟨w8.heap.size, 3, none⟩ (.int .i64 kj)).setCell ⟨w8.heap.size, 4, none⟩ (.bool true)).heap.size, 0, none⟩) 1 [⟨nm, f1, fa, kj, true⟩] := h
                    simpa using h2)
                  go_wp2_with (at_builtin
                               go_loud (refine wpList_app_e elBrkR _ rfl (.tmp 97) (.tmp 99) rfl w3.heap.size v14 L3 rfl HO17.out (w16.heap.size + 1) (some ⟨w16.heap.size, 0, none⟩) 1 1 [⟨nm, f1, fa, kj, true⟩] rfl HR17.out (by have := HL3.out; omega) (by have := HM17.out.rj.st.size; have := HU.out.size; simp [World.setCell] at this ⊢; omega) ?_)
                               intro A18 c18 w18 hown hg hv
                               generalize Value.slice A18 (L3.length + 1) c18 = v18 at *
                               have hM18 := HM17.out.app ((Below.refl _ _).alloc (Nat.le_refl _) (.cells #[.string nm, .string f1, .int .i64 fa, .int .i64 kj, .bool true] 32)) hown hg hv
                               rw [HWL.out] at hM18
                               have HM20 := Lib.hid hM18
                               clear hM18 hown hg hv)
                  refine ⟨⟨j + 1, _, by omega, by simp, rfl, Lib.hid ⟨?_, HM20.out.rj.st⟩⟩, by simp [intOf]; omega⟩
                  rw [HFT2.out, ← List.append_assoc, HLE.out]
                  have e7 : fldBrk nm gs ⟨f1, f2, f3, f4, fa, fb, fcc, fp, fq, fr⟩ = twoBrk nm ⟨f1, f2, f3, f4, fa, fb, fcc, fp, fq, fr⟩ ⟨g1, g2, g3, g4, ga, gb, gcc, gp, gq, gr⟩ := by
                    unfold fldBrk
                    show (match fldAt gs fa with | none => _ | some g => _) = _
                    rw [HF9.out]
                  have e8 : L2 ++ twoBrk nm ⟨f1, f2, f3, f4, fa, fb, fcc, fp, fq, fr⟩ ⟨g1, g2, g3, g4, ga, gb, gcc, gp, gq, gr⟩ = L3 ++ whyL ⟨nm, f1, fa, 0, true⟩ kj := by
                    rw [← HL3E.out, HKW.out, HKJ.out, List.append_assoc]
                    rfl
                  rw [e7, e8]
                  exact HM20.out.rj.own
                focus
                  go_wp2_with fail
                  have HM20 : Hid (MidR w3.heap.size wr.heap.size w8.heap.size (w8.heap.size + 1) w5 z1 nm ⟨f1, f2, f3, f4, fa, fb, fcc, fp, fq, fr⟩ ⟨g1, g2, g3, g4, ga, gb, gcc, gp, gq, gr⟩ (L3 ++ whyL ⟨nm, f1, fa, 0, true⟩ kj) kj true ((w16.setCell ⟨w8.heap.size, 3, none⟩ (.int .i64 0)).setCell ⟨w8.heap.size, 4, none⟩ (.bool true)) v14) := Lib.hid (by
                    rw [whyL, if_pos hj0, List.append_nil, show Value.int .i64 0 = .int .i64 kj by rw [hj0]]
                    exact HM17.out)
                  refine ⟨⟨j + 1, _, by omega, by simp, rfl, Lib.hid ⟨?_, HM20.out.rj.st⟩⟩, by simp [intOf]; omega⟩
                  rw [HFT2.out, ← List.append_assoc, HLE.out]
                  have e7 : fldBrk nm gs ⟨f1, f2, f3, f4, fa, fb, fcc, fp, fq, fr⟩ = twoBrk nm ⟨f1, f2, f3, f4, fa, fb, fcc, fp, fq, fr⟩ ⟨g1, g2, g3, g4, ga, gb, gcc, gp, gq, gr⟩ := by
                    unfold fldBrk
                    show (match fldAt gs fa with | none => _ | some g => _) = _
                    rw [HF9.out]
                  have e8 : L2 ++ twoBrk nm ⟨f1, f2, f3, f4, fa, fb, fcc, fp, fq, fr⟩ ⟨g1, g2, g3, g4, ga, gb, gcc, gp, gq, gr⟩ = L3 ++ whyL ⟨nm, f1, fa, 0, true⟩ kj := by
                    rw [← HL3E.out, HKW.out, HKJ.out, List.append_assoc]
                    rfl
                  rw [e7, e8]
                  exact HM20.out.rj.own
          · obtain rfl : j = xn := by omega
            have h1 := hq.out.own
            rw [List.take_of_length_le (by rw [HFx.out.1]; exact Nat.le_refl _)] at h1
            have HJ9 := Lib.hid (show RJ w3.heap.size w3 (.slice none 0 0) ((ms.take (k + 1)).flatMap qm) wr v1 from ⟨by
              rw [HFT.out, HQ2.out]
              exact h1, HW.out.st.trans hq.out.st⟩)
            have hm6 := hq.out.st.blk HM5.out HZ1.out
            have r0 := hm6.cell 0
            have r1 := hm6.cell 1
            have lr6 := hm6.lt
            simp only [List.getElem?_toArray, List.getElem?_cons_zero, List.getElem?_cons_succ] at r0 r1
            clear h1 hm6
            go_wp2
            exact ⟨⟨k + 1, _, by omega, by simp, rfl, HJ9⟩, by simp [intOf]; omega⟩
    · obtain rfl : k = mn := by omega
      have h1 := hh.out.own
      rw [List.take_of_length_le (by rw [HRA.out.m.1]; exact Nat.le_refl _)] at h1
      have HO := Lib.hid h1
      clear h1
      go_wp2
      go_ret
      exact ⟨z1, rfl, Lib.hid ⟨HO.out.base HB3.out.size, HB1.out⟩⟩
end Go.Proofs.Ytcjcpkjdhagofaa
