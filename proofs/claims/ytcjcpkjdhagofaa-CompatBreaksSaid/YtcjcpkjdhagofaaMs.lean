/-
  Contract: compat's message.
-/
import Derived.Test.YtcjcpkjdhagofaaMd
namespace Go.Proofs.Ytcjcpkjdhagofaa
open Go.RowKit Go.Own Go.Own.Cm Go.Shelf
attribute [local go_sem] Oper.semAt_some
/-- The list at the round k of message's loop. -/
structure MsJ (pb : Nat) (w0 : World) (v0 : Value) (L : List BrkV) (W : World) (v : Value) : Prop where
  ls : LSc pb W v L
  st : LStep pb w0 v0 W v
theorem two_len (nm : ByteArray) (gs : List FldV) (f : FldV) : (fldBrk nm gs f).length ≤ 2 := by
  unfold fldBrk
  split
  · simp [bothL]
  · simp only [twoBrk, whyL]
    split <;> split <;> simp
theorem flat_le {α : Type} (p : α → List BrkV) (h : ∀ x, (p x).length ≤ 2) : ∀ l : List α, (l.flatMap p).length ≤ 2 * l.length
  | [] => by simp
  | x :: l => by
    have := h x
    have := flat_le p h l
    simp only [List.flatMap_cons, List.length_append, List.length_cons]
    omega
theorem flat_take {α β : Type} (p : α → List β) (l : List α) (k : Nat) (x : α) (h : l[k]? = some x) : (l.take (k + 1)).flatMap p = (l.take k).flatMap p ++ p x := by
  obtain ⟨hk, he⟩ := List.getElem?_eq_some_iff.1 h
  rw [List.take_succ_eq_append_getElem hk, List.flatMap_append, he]
  simp
set_option maxHeartbeats 4000000 in
set_option maxRecDepth 100000 in
theorem message_any (pb : Nat) (s : SchV) (m : MsgV) (W : World) (v : Value) (L : List BrkV) (hs : LSc pb W v L) (hr : SchR W pb s) (hz : SchZ s) (hm : RS FldV.cells 10 W pb m.fA m.fn m.fs) (hmn : m.fn ≤ 40) (hk : ∀ f ∈ m.fs, KindsOk f) (hL : L.length ≤ 50000) :
    Calls Try.prog 22 #[.pointer (some ⟨pb, 0, none⟩), .agg s.cells, .agg m.cells] W (BothPost pb W v (L ++ msgBrk s m)) := by
  obtain ⟨A, c, rfl⟩ := hs.form
  have HFM := Lib.hid fun W' (hb : Below W.heap.size W W') => findMessage_any s m.nm pb W' (hr.below (hb.mono (Nat.le_of_lt hs.blk.lt))) hz (Nat.le_trans (Nat.le_of_lt hs.blk.lt) hb.size)
  have HS := Lib.hid hs
  have HM := Lib.hid hm
  have HK := Lib.hid hk
  have HL := Lib.hid hL
  have HZ := Lib.hid hz
  have lp := hs.blk.lt
  have HD : Hid (msgBrk s m = match msgAt s m.nm with | none => bothL ⟨m.nm, empT, 0, 1, false⟩ | some n => m.fs.flatMap (fldBrk m.nm n.fs)) := Lib.hid rfl
  generalize hmb : msgBrk s m = mb at *
  clear hmb hs hm hk hL hz hr
  obtain ⟨mA, mn, mc, ms, eA, en, ec, es, sA, sn, sc, ss⟩ := s
  obtain ⟨nm, fA, fn, fc, fs⟩ := m
  simp only [SchV.cells, MsgV.cells] at HFM HM HK HD hmn ⊢
  go_enter Try.func22, Try.ntmps22
  go_upto_region 2 with (with_reducible refine (HFM.out _ (by exact ((Below.refl _ _).alloc (Nat.le_refl _) _).alloc (by simp) _)).mono ?_
                         rintro e w2 ⟨g2, ⟨hf, rfl⟩ | ⟨n, gA, gc, hf, hmem, rfl, hgr, hge⟩⟩)
  · have hb3 : Below W.heap.size W (w2.alloc (.cells #[.string ⟨#[]⟩, .slice none 0 0] 45)) := ((((Below.refl W.heap.size W).alloc (Nat.le_refl _) _).alloc (by simp) _).trans (g2.mono (by simp; omega))).alloc (by have := g2.size; simp at this; omega) _
    have HBt := Lib.hid (both_any pb (w2.alloc (.cells #[.string ⟨#[]⟩, .slice none 0 0] 45)) (.slice A L.length c) L ⟨nm, empT, 0, 1, false⟩ (HS.out.below hb3) (by have := HL.out; omega))
    have HB3 := Lib.hid hb3
    have c5 : w2.cell? ⟨W.heap.size + 1, 0, none⟩ = some (.string nm) := by
      have h := (Blk.new (W.alloc (.cells #[.slice mA mn mc, .slice eA en ec, .slice sA sn sc] 26)) 45 #[.string nm, .slice fA fn fc]).below g2 (by simp)
      have h1 := h.cell 0
      simpa using h1
    have l5 : W.heap.size + 1 < w2.heap.size := by have := g2.size; simp at this; omega
    simp only [BrkV.cells, empT] at HBt ⊢
    have HF := Lib.hid hf
    clear hf hb3 g2
    go_wp2_with (with_reducible refine HBt.out.mono ?_
                 rintro e w4 ⟨rfl, v4, hl4, hs4⟩
                 have HL4 := Lib.hid hl4
                 have HS4 := Lib.hid hs4
                 clear hl4 hs4)
    go_end0
    have hD := HD.out
    rw [HF.out] at hD
    rw [hD]
    exact ⟨rfl, v4, HL4.out, (LStep.of_below HB3.out).trans HS4.out⟩
  · obtain ⟨nn, nA, gn, nc, gs⟩ := n
    simp only at hgr hf hge ⊢
    have hgn : gn ≤ 40 := HZ.out.f _ hmem
    have HKG := Lib.hid (HZ.out.k _ hmem)
    have W1 : Below W.heap.size W (w2.alloc (.cells #[.string nn, .slice gA gn gc] 45)) := ((((Below.refl W.heap.size W).alloc (Nat.le_refl _) _).alloc (by simp) _).trans (g2.mono (by simp; omega))).alloc (by have := g2.size; simp at this; omega) _
    have W2 : Blk (w2.alloc (.cells #[.string nn, .slice gA gn gc] 45)) (W.heap.size + 1) 45 #[.string nm, .slice fA fn fc] := (by
      have h := (Blk.new (W.alloc (.cells #[.slice mA mn mc, .slice eA en ec, .slice sA sn sc] 26)) 45 #[.string nm, .slice fA fn fc]).below g2 (by simp)
      simpa using h.alloc (.cells #[.string nn, .slice gA gn gc] 45))
    have W3 := Blk.new w2 45 #[.string nn, .slice gA gn gc]
    have W4 : RS FldV.cells 10 (w2.alloc (.cells #[.string nn, .slice gA gn gc] 45)) w2.heap.size gA gn gs := hgr.below ((Below.refl _ _).alloc (Nat.le_refl _) _)
    have W5 : ∀ ad, gA = some ad → W.heap.size + 2 ≤ ad.block := fun ad e => by have := hge ad e; simp at this; omega
    have l5 : W.heap.size + 1 < w2.heap.size := by have := g2.size; simp at this; omega
    obtain ⟨w3, e3⟩ : ∃ w3, w3 = w2.alloc (.cells #[.string nn, .slice gA gn gc] 45) := ⟨_, rfl⟩
    rw [← e3] at W1 W2 W3 W4
    have HE3 := Lib.hid e3
    have HB3 := Lib.hid W1
    have HM3 := Lib.hid W2
    have HN3 := Lib.hid W3
    have HG3 := Lib.hid W4
    have HA3 := Lib.hid W5
    have HL3 := Lib.hid (HS.out.below W1)
    have HF := Lib.hid hf
    have c5 : w2.cell? ⟨W.heap.size + 1, 0, none⟩ = some (.string nm) := by
      have h := (Blk.new (W.alloc (.cells #[.slice mA mn mc, .slice eA en ec, .slice sA sn sc] 26)) 45 #[.string nm, .slice fA fn fc]).below g2 (by simp)
      have h1 := h.cell 0
      simpa using h1
    have c51 : w2.cell? ⟨W.heap.size + 1, 1, none⟩ = some (.slice fA fn fc) := by
      have h := (Blk.new (W.alloc (.cells #[.slice mA mn mc, .slice eA en ec, .slice sA sn sc] 26)) 45 #[.string nm, .slice fA fn fc]).below g2 (by simp)
      have h1 := h.cell 1
      simpa using h1
    clear hgr hf hge hmem g2 W1 W2 W3 W4 W5 e3
    go_wp2
    rw [← HE3.out]
    go_loopw [30] (fun i wr => ∃ k : Nat, k ≤ fn ∧ i = .int .i64 (k : Int) ∧ Hid (∃ v', MsJ pb w3 (.slice A L.length c) (L ++ (fs.take k).flatMap (fldBrk nm gs)) wr v')) (fun i _ => fn - (intOf i).toNat)
    case atStart => exact ⟨0, Nat.zero_le _, rfl, Lib.hid ⟨_, ⟨by simpa using HL3.out, LStep.refl _ _ _⟩⟩⟩
    case round =>
      obtain ⟨k, hk, rfl, hh⟩ := hrel
      obtain ⟨v1, hJ⟩ := hh.out
      by_cases hlt : k < fn
      · have hb1 : Below pb W wr := (HB3.out.mono (Nat.le_of_lt lp)).trans (hJ.st.under HL3.out)
        obtain ⟨ad, x, rfl, hx, a0, a1, a2, a3, a4, a5, a6, a7, a8, a9⟩ := (HM.out.below hb1).atF hlt
        have far : ∀ i, W.heap.size ≤ i → (Value.slice A L.length c).ownBlock ≠ some i := fun i hi e => by have := (HS.out.own.lt i e).2; omega
        have hm1 := hJ.st.blk HM3.out (by omega) (far _ (by omega))
        have hn1 := hJ.st.blk HN3.out (by omega) (far _ (by omega))
        have hg1 : RS FldV.cells 10 wr w2.heap.size gA gn gs := HG3.out.keep hJ.st.size fun ad e _ h => hJ.st.block _ h (by have := HA3.out ad e; omega) (far _ (by have := HA3.out ad e; omega))
        have HX := Lib.hid hx
        have HJ := Lib.hid hJ
        have HFT := Lib.hid (flat_take (fldBrk nm gs) fs k x hx)
        have b50 := hm1.cell 0
        have b60 := hn1.cell 0
        have b61 := hn1.cell 1
        have lm1 := hm1.lt
        have ln1 := hn1.lt
        simp only [List.getElem?_toArray, List.getElem?_cons_zero, List.getElem?_cons_succ] at b50 b60 b61
        have HFO : Hid (∀ W', Below wr.heap.size wr W' → Calls Try.prog 36 #[.agg #[.string nn, .slice gA gn gc], .int .i64 x.num] W' (FfPost gs x.num W')) := Lib.hid fun W' hb => fieldOf_any nn w2.heap.size gA gn gc gs x.num W' (by omega) (hg1.below (hb.mono (Nat.le_of_lt ln1))) (Nat.le_trans (Nat.le_of_lt ln1) hb.size)
        clear hx hJ hh hb1 far hm1 hn1 hg1
        have HKx := Lib.hid (HK.out x (List.mem_of_getElem? HX.out))
        have i0 : (0 : Int) ≤ (k : Int) := by omega
        have i1 : (k : Int) < (fn : Int) := by omega
        obtain ⟨f1, f2, f3, f4, fa, fb, fcc, fp, fq, fr⟩ := x
        simp only at a0 a1 a2 a3 a4 a5 a6 a7 a8 a9 HFO
        have HBk := Lib.hid (show Blk ((wr.alloc (.cells #[.string f1, .string f2, .string f3, .string f4, .int .i64 fa, .int .i64 fb, .int .i64 fcc, .bool fp, .bool fq, .bool fr] 42)).alloc (.cells #[.string nm, .string f1, .int .i64 fa, .int .i64 1, .bool false] 46)) (wr.heap.size + 1) 46 (BrkV.cells ⟨nm, f1, fa, 1, false⟩) from by simpa [BrkV.cells] using Blk.new (wr.alloc (.cells #[.string f1, .string f2, .string f3, .string f4, .int .i64 fa, .int .i64 fb, .int .i64 fcc, .bool fp, .bool fq, .bool fr] 42)) 46 #[.string nm, .string f1, .int .i64 fa, .int .i64 1, .bool false])
        have HFk := Lib.hid (show Blk ((wr.alloc (.cells #[.string f1, .string f2, .string f3, .string f4, .int .i64 fa, .int .i64 fb, .int .i64 fcc, .bool fp, .bool fq, .bool fr] 42)).alloc (.cells #[.string nm, .string f1, .int .i64 fa, .int .i64 1, .bool false] 46)) wr.heap.size 42 (FldV.cells ⟨f1, f2, f3, f4, fa, fb, fcc, fp, fq, fr⟩) from (Blk.new wr 42 #[.string f1, .string f2, .string f3, .string f4, .int .i64 fa, .int .i64 fb, .int .i64 fcc, .bool fp, .bool fq, .bool fr]).alloc _)
        have HBB := Lib.hid (show Below wr.heap.size wr ((wr.alloc (.cells #[.string f1, .string f2, .string f3, .string f4, .int .i64 fa, .int .i64 fb, .int .i64 fcc, .bool fp, .bool fq, .bool fr] 42)).alloc (.cells #[.string nm, .string f1, .int .i64 fa, .int .i64 1, .bool false] 46)) from ((Below.refl _ _).alloc (Nat.le_refl _) _).alloc (by simp) _)
        go_wp2_with (with_reducible refine (HFO.out _ (by exact HBB.out)).mono ?_
                     rintro e w5 ⟨g5, hc5⟩
                     have hb5 := HBk.out.below g5 (by exact HBk.out.lt)
                     have HF5 := Lib.hid (HFk.out.below g5 (by exact HFk.out.lt))
                     have HB5 := Lib.hid (HBB.out.trans (g5.mono HBB.out.size))
                     have lb5 := hb5.lt
                     have q0 := hb5.cell 0
                     have q1 := hb5.cell 1
                     have q2 := hb5.cell 2
                     have q3 := hb5.cell 3
                     have q4 := hb5.cell 4
                     have HK5 := Lib.hid hb5
                     clear g5 hb5
                     simp only [BrkV.cells, List.getElem?_toArray, List.getElem?_cons_zero, List.getElem?_cons_succ] at q0 q1 q2 q3 q4
                     rcases hc5 with ⟨hf5, rfl⟩ | ⟨⟨g1, g2, g3, g4, ga, gb, gcc, gp, gq, gr⟩, hf5, hmem5, rfl⟩
                     all_goals
                       have HF5' := Lib.hid hf5
                       clear hf5
                       simp only [zeroF, FldV.cells])
        · have hb6 : Below wr.heap.size wr (w5.alloc (.cells #[.string ⟨#[]⟩, .string ⟨#[]⟩, .string ⟨#[]⟩, .string ⟨#[]⟩, .int .i64 0, .int .i64 0, .int .i64 0, .bool false, .bool false, .bool false] 42)) := HB5.out.alloc HB5.out.size _
          refine (both_any pb _ v1 _ ⟨nm, f1, fa, 1, false⟩ (HJ.out.ls.below hb6) (by have := HL.out; have := flat_le _ (two_len nm gs) (fs.take k); rw [List.length_append]; rw [List.length_take] at this; omega)).mono ?_
          rintro e w7 ⟨rfl, v7, hl7, hs7⟩
          have HJ7 := Lib.hid (show MsJ pb w3 (.slice A L.length c) (L ++ (fs.take (k + 1)).flatMap (fldBrk nm gs)) w7 v7 from ⟨by
            rw [HFT.out, ← List.append_assoc]
            have e7 : fldBrk nm gs ⟨f1, f2, f3, f4, fa, fb, fcc, fp, fq, fr⟩ = bothL ⟨nm, f1, fa, 1, false⟩ := by
              unfold fldBrk
              show (match fldAt gs fa with | none => _ | some g => _) = _
              rw [HF5'.out]
            rw [e7]
            exact hl7, HJ.out.st.trans ((LStep.of_below hb6).trans hs7)⟩)
          clear hl7 hs7 hb6
          go_wp2
          exact ⟨⟨k + 1, by omega, by simp, Lib.hid ⟨v7, HJ7.out⟩⟩, by simp [intOf]; omega⟩
        · have HKg := Lib.hid (HKG.out _ hmem5)
          have hb6 : Below wr.heap.size wr (w5.alloc (.cells #[.string g1, .string g2, .string g3, .string g4, .int .i64 ga, .int .i64 gb, .int .i64 gcc, .bool gp, .bool gq, .bool gr] 42)) := HB5.out.alloc HB5.out.size _
          have hM6 : Mid pb wr.heap.size (wr.heap.size + 1) w5.heap.size w3 (.slice A L.length c) nm ⟨f1, f2, f3, f4, fa, fb, fcc, fp, fq, fr⟩ ⟨g1, g2, g3, g4, ga, gb, gcc, gp, gq, gr⟩ (L ++ (fs.take k).flatMap (fldBrk nm gs)) 1 false (w5.alloc (.cells #[.string g1, .string g2, .string g3, .string g4, .int .i64 ga, .int .i64 gb, .int .i64 gcc, .bool gp, .bool gq, .bool gr] 42)) v1 :=
            ⟨HJ.out.ls.below hb6, HJ.out.st.trans (LStep.of_below hb6), HF5.out.alloc _, HK5.out.alloc _, Blk.new w5 _ _, ⟨HJ.out.ls.far (by omega), HJ.out.ls.far (by omega), HJ.out.ls.far (by omega)⟩, ⟨by have := HJ.out.ls.blk.lt; omega, by have := HJ.out.ls.blk.lt; omega, by have := HJ.out.ls.blk.lt; omega⟩, by omega, by omega⟩
          have hsz : w3.heap.size ≤ wr.heap.size := HJ.out.st.size
          generalize w5.alloc (.cells #[.string g1, .string g2, .string g3, .string g4, .int .i64 ga, .int .i64 gb, .int .i64 gcc, .bool gp, .bool gq, .bool gr] 42) = w6 at *
          generalize hb11 : w5.heap.size = b11 at *
          have hl1 : (L ++ (fs.take k).flatMap (fldBrk nm gs)).length ≤ 60000 := by
            have := HL.out
            have := flat_le _ (two_len nm gs) (fs.take k)
            rw [List.length_append]
            rw [List.length_take] at this
            omega
          generalize hL1 : L ++ (fs.take k).flatMap (fldBrk nm gs) = L1 at hM6 hl1
          have HL1 := Lib.hid hl1
          have HLE := Lib.hid hL1
          clear hl1 hL1
          have HM6 := Lib.hid hM6
          have HKf : Hid (∀ W', Below w6.heap.size w6 W' → ((W'.cell? ⟨wr.heap.size, 0, none⟩ = some (.string f1) ∧ W'.cell? ⟨wr.heap.size, 1, none⟩ = some (.string f2) ∧ W'.cell? ⟨wr.heap.size, 2, none⟩ = some (.string f3) ∧ W'.cell? ⟨wr.heap.size, 3, none⟩ = some (.string f4) ∧ W'.cell? ⟨wr.heap.size, 4, none⟩ = some (.int .i64 fa) ∧ W'.cell? ⟨wr.heap.size, 5, none⟩ = some (.int .i64 fb) ∧ W'.cell? ⟨wr.heap.size, 6, none⟩ = some (.int .i64 fcc) ∧ W'.cell? ⟨wr.heap.size, 7, none⟩ = some (.bool fp) ∧ W'.cell? ⟨wr.heap.size, 8, none⟩ = some (.bool fq) ∧ W'.cell? ⟨wr.heap.size, 9, none⟩ = some (.bool fr)) ∧
              (W'.cell? ⟨b11, 0, none⟩ = some (.string g1) ∧ W'.cell? ⟨b11, 1, none⟩ = some (.string g2) ∧ W'.cell? ⟨b11, 2, none⟩ = some (.string g3) ∧ W'.cell? ⟨b11, 3, none⟩ = some (.string g4) ∧ W'.cell? ⟨b11, 4, none⟩ = some (.int .i64 ga) ∧ W'.cell? ⟨b11, 5, none⟩ = some (.int .i64 gb) ∧ W'.cell? ⟨b11, 6, none⟩ = some (.int .i64 gcc) ∧ W'.cell? ⟨b11, 7, none⟩ = some (.bool gp) ∧ W'.cell? ⟨b11, 8, none⟩ = some (.bool gq) ∧ W'.cell? ⟨b11, 9, none⟩ = some (.bool gr)))) := Lib.hid fun W' hb => by
            have h := HM6.out.below hb
            exact ⟨⟨h.hf.cell 0, h.hf.cell 1, h.hf.cell 2, h.hf.cell 3, h.hf.cell 4, h.hf.cell 5, h.hf.cell 6, h.hf.cell 7, h.hf.cell 8, h.hf.cell 9⟩, h.hg.cell 0, h.hg.cell 1, h.hg.cell 2, h.hg.cell 3, h.hg.cell 4, h.hg.cell 5, h.hg.cell 6, h.hg.cell 7, h.hg.cell 8, h.hg.cell 9⟩
          have HKp : Hid (∀ (W' : World) (u : Value), Below w6.heap.size w6 W' → (((W'.setCell ⟨wr.heap.size + 1, 3, none⟩ u).cell? ⟨wr.heap.size, 0, none⟩ = some (.string f1) ∧ (W'.setCell ⟨wr.heap.size + 1, 3, none⟩ u).cell? ⟨wr.heap.size, 1, none⟩ = some (.string f2) ∧ (W'.setCell ⟨wr.heap.size + 1, 3, none⟩ u).cell? ⟨wr.heap.size, 2, none⟩ = some (.string f3) ∧ (W'.setCell ⟨wr.heap.size + 1, 3, none⟩ u).cell? ⟨wr.heap.size, 3, none⟩ = some (.string f4) ∧ (W'.setCell ⟨wr.heap.size + 1, 3, none⟩ u).cell? ⟨wr.heap.size, 4, none⟩ = some (.int .i64 fa) ∧ (W'.setCell ⟨wr.heap.size + 1, 3, none⟩ u).cell? ⟨wr.heap.size, 5, none⟩ = some (.int .i64 fb) ∧ (W'.setCell ⟨wr.heap.size + 1, 3, none⟩ u).cell? ⟨wr.heap.size, 6, none⟩ = some (.int .i64 fcc) ∧ (W'.setCell ⟨wr.heap.size + 1, 3, none⟩ u).cell? ⟨wr.heap.size, 7, none⟩ = some (.bool fp) ∧ (W'.setCell ⟨wr.heap.size + 1, 3, none⟩ u).cell? ⟨wr.heap.size, 8, none⟩ = some (.bool fq) ∧ (W'.setCell ⟨wr.heap.size + 1, 3, none⟩ u).cell? ⟨wr.heap.size, 9, none⟩ = some (.bool fr)) ∧
              ((W'.setCell ⟨wr.heap.size + 1, 3, none⟩ u).cell? ⟨b11, 0, none⟩ = some (.string g1) ∧ (W'.setCell ⟨wr.heap.size + 1, 3, none⟩ u).cell? ⟨b11, 1, none⟩ = some (.string g2) ∧ (W'.setCell ⟨wr.heap.size + 1, 3, none⟩ u).cell? ⟨b11, 2, none⟩ = some (.string g3) ∧ (W'.setCell ⟨wr.heap.size + 1, 3, none⟩ u).cell? ⟨b11, 3, none⟩ = some (.string g4) ∧ (W'.setCell ⟨wr.heap.size + 1, 3, none⟩ u).cell? ⟨b11, 4, none⟩ = some (.int .i64 ga) ∧ (W'.setCell ⟨wr.heap.size + 1, 3, none⟩ u).cell? ⟨b11, 5, none⟩ = some (.int .i64 gb) ∧ (W'.setCell ⟨wr.heap.size + 1, 3, none⟩ u).cell? ⟨b11, 6, none⟩ = some (.int .i64 gcc) ∧ (W'.setCell ⟨wr.heap.size + 1, 3, none⟩ u).cell? ⟨b11, 7, none⟩ = some (.bool gp) ∧ (W'.setCell ⟨wr.heap.size + 1, 3, none⟩ u).cell? ⟨b11, 8, none⟩ = some (.bool gq) ∧ (W'.setCell ⟨wr.heap.size + 1, 3, none⟩ u).cell? ⟨b11, 9, none⟩ = some (.bool gr)))) := Lib.hid fun W' u hb => by
            have h := HM6.out.below hb
            have hf := h.hf.far (p := ⟨wr.heap.size + 1, 3, none⟩) h.ne.2.1 u
            have hg := h.hg.far (p := ⟨wr.heap.size + 1, 3, none⟩) h.ne.2.2 u
            exact ⟨⟨hf.cell 0, hf.cell 1, hf.cell 2, hf.cell 3, hf.cell 4, hf.cell 5, hf.cell 6, hf.cell 7, hf.cell 8, hf.cell 9⟩, hg.cell 0, hg.cell 1, hg.cell 2, hg.cell 3, hg.cell 4, hg.cell 5, hg.cell 6, hg.cell 7, hg.cell 8, hg.cell 9⟩
          clear hM6 hb6 HF5 HK5 HB5 HBk HFk HBB HFO q0 q1 q2 q3 q4 lb5
          go_region_held3 (fun W' => (W'.cell? ⟨wr.heap.size, 0, none⟩ = some (.string f1) ∧ W'.cell? ⟨wr.heap.size, 1, none⟩ = some (.string f2) ∧ W'.cell? ⟨wr.heap.size, 2, none⟩ = some (.string f3) ∧ W'.cell? ⟨wr.heap.size, 3, none⟩ = some (.string f4) ∧ W'.cell? ⟨wr.heap.size, 4, none⟩ = some (.int .i64 fa) ∧ W'.cell? ⟨wr.heap.size, 5, none⟩ = some (.int .i64 fb) ∧ W'.cell? ⟨wr.heap.size, 6, none⟩ = some (.int .i64 fcc) ∧ W'.cell? ⟨wr.heap.size, 7, none⟩ = some (.bool fp) ∧ W'.cell? ⟨wr.heap.size, 8, none⟩ = some (.bool fq) ∧ W'.cell? ⟨wr.heap.size, 9, none⟩ = some (.bool fr)) ∧
              (W'.cell? ⟨b11, 0, none⟩ = some (.string g1) ∧ W'.cell? ⟨b11, 1, none⟩ = some (.string g2) ∧ W'.cell? ⟨b11, 2, none⟩ = some (.string g3) ∧ W'.cell? ⟨b11, 3, none⟩ = some (.string g4) ∧ W'.cell? ⟨b11, 4, none⟩ = some (.int .i64 ga) ∧ W'.cell? ⟨b11, 5, none⟩ = some (.int .i64 gb) ∧ W'.cell? ⟨b11, 6, none⟩ = some (.int .i64 gcc) ∧ W'.cell? ⟨b11, 7, none⟩ = some (.bool gp) ∧ W'.cell? ⟨b11, 8, none⟩ = some (.bool gq) ∧ W'.cell? ⟨b11, 9, none⟩ = some (.bool gr)))
            (first | exact HKp.out _ _ HB8.out | exact HKf.out _ (Below.refl _ _) | exact HKf.out _ (below_drewN (Below.refl _ _) 1) | exact HKf.out _ HB8.out | exact HKf.out _ HB7.out) (first
            | (go_simp; go_at_call 38; refine (wireQ_any _).mono ?_; rintro e w7 ⟨Aq, cq, rfl, hq⟩; have HQ7 := Lib.hid hq.out.1; have HB7 := Lib.hid (Below.trans (below_drewN (Below.refl w6.heap.size w6) 1) hq.out.2); clear hq)
            | (go_simp; go_at_call 37; refine (asked_any Aq 4 cq wireQ ⟨f1, f2, f3, f4, fa, fb, fcc, fp, fq, fr⟩ ⟨g1, g2, g3, g4, ga, gb, gcc, gp, gq, gr⟩ _ (by omega) HQ7.out).mono ?_; rintro e w8 ⟨rfl, g8⟩; rw [ask_wire]; have HB8 := Lib.hid (HB7.out.trans (g8.mono HB7.out.size)); have e8 := ((HM6.out.below HB8.out).hb.cell 3); have q8 := ((HM6.out.below HB8.out).hb.frozen 3); simp only [BrkV.cells, List.getElem?_toArray, List.getElem?_cons_zero, List.getElem?_cons_succ] at e8; clear g8)
            | fail)
          have hM9 := (HM6.out.below HB8.out).put 3 (.int .i64 (wireWhy ⟨f1, f2, f3, f4, fa, fb, fcc, fp, fq, fr⟩ ⟨g1, g2, g3, g4, ga, gb, gcc, gp, gq, gr⟩)) (why' := wireWhy ⟨f1, f2, f3, f4, fa, fb, fcc, fp, fq, fr⟩ ⟨g1, g2, g3, g4, ga, gb, gcc, gp, gq, gr⟩) (js' := false) (by omega) (by rfl)
          obtain ⟨kw, hkw⟩ : ∃ kw, kw = wireWhy ⟨f1, f2, f3, f4, fa, fb, fcc, fp, fq, fr⟩ ⟨g1, g2, g3, g4, ga, gb, gcc, gp, gq, gr⟩ := ⟨_, rfl⟩
          rw [← hkw] at hM9 ⊢
          have HKW := Lib.hid hkw
          clear hkw HB7 HB8 HQ7 e8 q8 HKf HKp HM6
          generalize w8.setCell ⟨wr.heap.size + 1, 3, none⟩ (.int .i64 kw) = w9 at *
          have HM9 := Lib.hid hM9
          have lb9 := hM9.hb.lt
          have lp9 := hM9.ls.blk.lt
          obtain ⟨A9, c9, rfl⟩ := hM9.ls.form
          have cp9 : w9.cell? ⟨pb, 0, none⟩ = _ := hM9.ls.blk.cell 0
          have k0 := hM9.hb.cell 0
          have k1 := hM9.hb.cell 1
          have k2 := hM9.hb.cell 2
          have k3 := hM9.hb.cell 3
          have k4 := hM9.hb.cell 4
          simp only [BrkV.cells, List.getElem?_toArray, List.getElem?_cons_zero, List.getElem?_cons_succ] at cp9 k0 k1 k2 k3 k4
          clear hM9
          by_cases hk0 : kw = 0
          rotate_left
          go_wp2_with fail
          focus
            have hb10 : Below w9.heap.size w9 (w9.alloc (.cells #[.string nm, .string f1, .int .i64 fa, .int .i64 kw, .bool false] 46)).drew := ((Below.refl _ _).alloc (Nat.le_refl _) _).drew
            have HO1 : Hid (Ew BrkV.cells 46 5 (w9.alloc (.cells #[.string nm, .string f1, .int .i64 fa, .int .i64 kw, .bool false] 46)).drew (pb + 1) (.slice A9 L1.length c9) L1) := Lib.hid (HM9.out.ls.own.below hb10)
            have HR1 : Hid (RS BrkV.cells 5 (w9.alloc (.cells #[.string nm, .string f1, .int .i64 fa, .int .i64 kw, .bool false] 46)).drew (w9.heap.size + 1) (some ⟨w9.heap.size, 0, none⟩) 1 [⟨nm, f1, fa, kw, false⟩]) := Lib.hid (by
              have h := (Ew.lit (k := 5) BrkV.cells 46 (fun _ => rfl) w9 [⟨nm, f1, fa, kw, false⟩] (by simp)).rs (fun _ => rfl) (by omega)
              have h2 : RS BrkV.cells 5 (w9.alloc (.cells #[.string nm, .string f1, .int .i64 fa, .int .i64 kw, .bool false] 46)) _ (some ⟨w9.heap.size, 0, none⟩) 1 [⟨nm, f1, fa, kw, false⟩] := h
              have h3 := h2.below ((Below.refl _ _).drew)
              simpa using h3)
            have HB10 := Lib.hid hb10
            clear hb10
            go_region_law ((refine step_app_e elBrkL _ (by rfl) (.tmp 64) (.tmp 66) (by rfl) (pb + 1) (.slice A9 L1.length c9) L1 (by rfl) HO1.out (w9.heap.size + 1) (some ⟨w9.heap.size, 0, none⟩) 1 1 [⟨nm, f1, fa, kw, false⟩] (by rfl) HR1.out (by have := HL1.out; omega) (by simp; omega) ?_
                            intro A12 c12 w12 hown hg hv
                            have HG12 := Lib.hid hg
                            have HO12 := Lib.hid hown
                            have HV12 := Lib.hid hv
                            have hP12 := (HM9.out.ls.blk.below HB10.out HM9.out.ls.blk.lt).grown hg (fun e => by have := (HM9.out.ls.own.lt pb e.symm).1; omega)
                            have hf12 : w12.frozen? ⟨pb, 0, none⟩ = false := hP12.frozen 0
                            have hc12 : w12.cell? ⟨pb, 0, none⟩ = some (.slice A9 L1.length c9) := hP12.cell 0
                            clear hown hg hv hP12))
            all_goals
              have hM13 := HM9.out.app HB10.out HO12.out HG12.out HV12.out
              obtain ⟨v13, hv13⟩ : ∃ v13, v13 = Value.slice A12 (L1.length + 1) c12 := ⟨_, rfl⟩
              rw [← hv13] at hM13 ⊢
              have hW : L1 ++ [⟨nm, f1, fa, kw, false⟩] = L1 ++ whyL ⟨nm, f1, fa, 0, false⟩ kw := by rw [whyL, if_neg hk0]
              rw [hW] at hM13
              clear hW hv13 HG12 HO12 HV12 hf12 hc12 HB10 HO1 HR1 k0 k1 k2 k3 k4 cp9 lb9 lp9 HM9
              generalize w12.setCell ⟨pb, 0, none⟩ v13 = w13 at *
              have HM13 := Lib.hid hM13
              clear hM13
              go_wp2_with fail
          rotate_right
          focus
            have HM13 : Hid (Mid pb wr.heap.size (wr.heap.size + 1) b11 w3 (.slice A L.length c) nm ⟨f1, f2, f3, f4, fa, fb, fcc, fp, fq, fr⟩ ⟨g1, g2, g3, g4, ga, gb, gcc, gp, gq, gr⟩ (L1 ++ whyL ⟨nm, f1, fa, 0, false⟩ kw) kw false w9 (.slice A9 L1.length c9)) := Lib.hid (by
              rw [whyL, if_pos hk0, List.append_nil]
              exact HM9.out)
            clear k0 k1 k2 k3 k4 cp9 lb9 lp9 HM9
            generalize Value.slice A9 L1.length c9 = v13 at *
            generalize w9 = w13 at *
          all_goals
            clear hk0
            have hl2 : (L1 ++ whyL ⟨nm, f1, fa, 0, false⟩ kw).length ≤ 60010 := by
              have := HL1.out
              rw [List.length_append]
              unfold whyL
              split <;> simp <;> omega
            generalize hL2 : L1 ++ whyL ⟨nm, f1, fa, 0, false⟩ kw = L2 at *
            have HL2 := Lib.hid hl2
            have HLF := Lib.hid hL2
            clear hl2 hL2
            have HKf : Hid (∀ W', Below w13.heap.size w13 W' → ((W'.cell? ⟨wr.heap.size, 0, none⟩ = some (.string f1) ∧ W'.cell? ⟨wr.heap.size, 1, none⟩ = some (.string f2) ∧ W'.cell? ⟨wr.heap.size, 2, none⟩ = some (.string f3) ∧ W'.cell? ⟨wr.heap.size, 3, none⟩ = some (.string f4) ∧ W'.cell? ⟨wr.heap.size, 4, none⟩ = some (.int .i64 fa) ∧ W'.cell? ⟨wr.heap.size, 5, none⟩ = some (.int .i64 fb) ∧ W'.cell? ⟨wr.heap.size, 6, none⟩ = some (.int .i64 fcc) ∧ W'.cell? ⟨wr.heap.size, 7, none⟩ = some (.bool fp) ∧ W'.cell? ⟨wr.heap.size, 8, none⟩ = some (.bool fq) ∧ W'.cell? ⟨wr.heap.size, 9, none⟩ = some (.bool fr)) ∧
                (W'.cell? ⟨b11, 0, none⟩ = some (.string g1) ∧ W'.cell? ⟨b11, 1, none⟩ = some (.string g2) ∧ W'.cell? ⟨b11, 2, none⟩ = some (.string g3) ∧ W'.cell? ⟨b11, 3, none⟩ = some (.string g4) ∧ W'.cell? ⟨b11, 4, none⟩ = some (.int .i64 ga) ∧ W'.cell? ⟨b11, 5, none⟩ = some (.int .i64 gb) ∧ W'.cell? ⟨b11, 6, none⟩ = some (.int .i64 gcc) ∧ W'.cell? ⟨b11, 7, none⟩ = some (.bool gp) ∧ W'.cell? ⟨b11, 8, none⟩ = some (.bool gq) ∧ W'.cell? ⟨b11, 9, none⟩ = some (.bool gr)))) := Lib.hid fun W' hb => by
              have h := HM13.out.below hb
              exact ⟨⟨h.hf.cell 0, h.hf.cell 1, h.hf.cell 2, h.hf.cell 3, h.hf.cell 4, h.hf.cell 5, h.hf.cell 6, h.hf.cell 7, h.hf.cell 8, h.hf.cell 9⟩, h.hg.cell 0, h.hg.cell 1, h.hg.cell 2, h.hg.cell 3, h.hg.cell 4, h.hg.cell 5, h.hg.cell 6, h.hg.cell 7, h.hg.cell 8, h.hg.cell 9⟩
            have HKp : Hid (∀ (W' : World) (u : Value), Below w13.heap.size w13 W' → (((W'.setCell ⟨wr.heap.size + 1, 3, none⟩ u).cell? ⟨wr.heap.size, 0, none⟩ = some (.string f1) ∧ (W'.setCell ⟨wr.heap.size + 1, 3, none⟩ u).cell? ⟨wr.heap.size, 1, none⟩ = some (.string f2) ∧ (W'.setCell ⟨wr.heap.size + 1, 3, none⟩ u).cell? ⟨wr.heap.size, 2, none⟩ = some (.string f3) ∧ (W'.setCell ⟨wr.heap.size + 1, 3, none⟩ u).cell? ⟨wr.heap.size, 3, none⟩ = some (.string f4) ∧ (W'.setCell ⟨wr.heap.size + 1, 3, none⟩ u).cell? ⟨wr.heap.size, 4, none⟩ = some (.int .i64 fa) ∧ (W'.setCell ⟨wr.heap.size + 1, 3, none⟩ u).cell? ⟨wr.heap.size, 5, none⟩ = some (.int .i64 fb) ∧ (W'.setCell ⟨wr.heap.size + 1, 3, none⟩ u).cell? ⟨wr.heap.size, 6, none⟩ = some (.int .i64 fcc) ∧ (W'.setCell ⟨wr.heap.size + 1, 3, none⟩ u).cell? ⟨wr.heap.size, 7, none⟩ = some (.bool fp) ∧ (W'.setCell ⟨wr.heap.size + 1, 3, none⟩ u).cell? ⟨wr.heap.size, 8, none⟩ = some (.bool fq) ∧ (W'.setCell ⟨wr.heap.size + 1, 3, none⟩ u).cell? ⟨wr.heap.size, 9, none⟩ = some (.bool fr)) ∧
                ((W'.setCell ⟨wr.heap.size + 1, 3, none⟩ u).cell? ⟨b11, 0, none⟩ = some (.string g1) ∧ (W'.setCell ⟨wr.heap.size + 1, 3, none⟩ u).cell? ⟨b11, 1, none⟩ = some (.string g2) ∧ (W'.setCell ⟨wr.heap.size + 1, 3, none⟩ u).cell? ⟨b11, 2, none⟩ = some (.string g3) ∧ (W'.setCell ⟨wr.heap.size + 1, 3, none⟩ u).cell? ⟨b11, 3, none⟩ = some (.string g4) ∧ (W'.setCell ⟨wr.heap.size + 1, 3, none⟩ u).cell? ⟨b11, 4, none⟩ = some (.int .i64 ga) ∧ (W'.setCell ⟨wr.heap.size + 1, 3, none⟩ u).cell? ⟨b11, 5, none⟩ = some (.int .i64 gb) ∧ (W'.setCell ⟨wr.heap.size + 1, 3, none⟩ u).cell? ⟨b11, 6, none⟩ = some (.int .i64 gcc) ∧ (W'.setCell ⟨wr.heap.size + 1, 3, none⟩ u).cell? ⟨b11, 7, none⟩ = some (.bool gp) ∧ (W'.setCell ⟨wr.heap.size + 1, 3, none⟩ u).cell? ⟨b11, 8, none⟩ = some (.bool gq) ∧ (W'.setCell ⟨wr.heap.size + 1, 3, none⟩ u).cell? ⟨b11, 9, none⟩ = some (.bool gr)))) := Lib.hid fun W' u hb => by
              have h := HM13.out.below hb
              have hf := h.hf.far (p := ⟨wr.heap.size + 1, 3, none⟩) h.ne.2.1 u
              have hg := h.hg.far (p := ⟨wr.heap.size + 1, 3, none⟩) h.ne.2.2 u
              exact ⟨⟨hf.cell 0, hf.cell 1, hf.cell 2, hf.cell 3, hf.cell 4, hf.cell 5, hf.cell 6, hf.cell 7, hf.cell 8, hf.cell 9⟩, hg.cell 0, hg.cell 1, hg.cell 2, hg.cell 3, hg.cell 4, hg.cell 5, hg.cell 6, hg.cell 7, hg.cell 8, hg.cell 9⟩
            go_region_held3 (fun W' => (W'.cell? ⟨wr.heap.size, 0, none⟩ = some (.string f1) ∧ W'.cell? ⟨wr.heap.size, 1, none⟩ = some (.string f2) ∧ W'.cell? ⟨wr.heap.size, 2, none⟩ = some (.string f3) ∧ W'.cell? ⟨wr.heap.size, 3, none⟩ = some (.string f4) ∧ W'.cell? ⟨wr.heap.size, 4, none⟩ = some (.int .i64 fa) ∧ W'.cell? ⟨wr.heap.size, 5, none⟩ = some (.int .i64 fb) ∧ W'.cell? ⟨wr.heap.size, 6, none⟩ = some (.int .i64 fcc) ∧ W'.cell? ⟨wr.heap.size, 7, none⟩ = some (.bool fp) ∧ W'.cell? ⟨wr.heap.size, 8, none⟩ = some (.bool fq) ∧ W'.cell? ⟨wr.heap.size, 9, none⟩ = some (.bool fr)) ∧
                (W'.cell? ⟨b11, 0, none⟩ = some (.string g1) ∧ W'.cell? ⟨b11, 1, none⟩ = some (.string g2) ∧ W'.cell? ⟨b11, 2, none⟩ = some (.string g3) ∧ W'.cell? ⟨b11, 3, none⟩ = some (.string g4) ∧ W'.cell? ⟨b11, 4, none⟩ = some (.int .i64 ga) ∧ W'.cell? ⟨b11, 5, none⟩ = some (.int .i64 gb) ∧ W'.cell? ⟨b11, 6, none⟩ = some (.int .i64 gcc) ∧ W'.cell? ⟨b11, 7, none⟩ = some (.bool gp) ∧ W'.cell? ⟨b11, 8, none⟩ = some (.bool gq) ∧ W'.cell? ⟨b11, 9, none⟩ = some (.bool gr)))
              (first | exact HKp.out _ _ HB15.out | exact HKf.out _ (Below.refl _ _) | exact HKf.out _ (below_drewN (Below.refl _ _) 1) | exact HKf.out _ HB15.out | exact HKf.out _ HB14.out) (first
              | (go_simp; go_at_call 39; refine (jsonQ_any _).mono ?_; rintro e w14 ⟨Aq, cq, rfl, hq⟩; have HQ14 := Lib.hid hq.out.1; have HB14 := Lib.hid (Below.trans (below_drewN (Below.refl w13.heap.size w13) 1) hq.out.2); clear hq)
              | (go_simp; go_at_call 37; refine (asked_any Aq 5 cq jsonQ ⟨f1, f2, f3, f4, fa, fb, fcc, fp, fq, fr⟩ ⟨g1, g2, g3, g4, ga, gb, gcc, gp, gq, gr⟩ _ (by omega) HQ14.out).mono ?_; rintro e w15 ⟨rfl, g15⟩; rw [ask_json _ _ HKx.out HKg.out]; have HB15 := Lib.hid (HB14.out.trans (g15.mono HB14.out.size)); have e15 := ((HM13.out.below HB15.out).hb.cell 3); have q15 := ((HM13.out.below HB15.out).hb.frozen 3); simp only [BrkV.cells, List.getElem?_toArray, List.getElem?_cons_zero, List.getElem?_cons_succ] at e15; clear g15)
              | fail)

            have hM16 := (HM13.out.below HB15.out).put 3 (.int .i64 (jsonWhy ⟨f1, f2, f3, f4, fa, fb, fcc, fp, fq, fr⟩ ⟨g1, g2, g3, g4, ga, gb, gcc, gp, gq, gr⟩)) (why' := jsonWhy ⟨f1, f2, f3, f4, fa, fb, fcc, fp, fq, fr⟩ ⟨g1, g2, g3, g4, ga, gb, gcc, gp, gq, gr⟩) (js' := false) (by omega) (by rfl)
            obtain ⟨kj, hkj⟩ : ∃ kj, kj = jsonWhy ⟨f1, f2, f3, f4, fa, fb, fcc, fp, fq, fr⟩ ⟨g1, g2, g3, g4, ga, gb, gcc, gp, gq, gr⟩ := ⟨_, rfl⟩
            rw [← hkj] at hM16 ⊢
            have HKJ := Lib.hid hkj
            clear hkj HB14 HB15 HQ14 e15 q15 HKf HKp HM13
            generalize w15.setCell ⟨wr.heap.size + 1, 3, none⟩ (.int .i64 kj) = w16 at *
            have HM16 := Lib.hid hM16
            have lb16 := hM16.hb.lt
            have lp16 := hM16.ls.blk.lt
            obtain ⟨A16, c16, rfl⟩ := hM16.ls.form
            have cp16 : w16.cell? ⟨pb, 0, none⟩ = _ := hM16.ls.blk.cell 0
            have q16 := hM16.hb.frozen 4
            have k0 := hM16.hb.cell 0
            have k1 := hM16.hb.cell 1
            have k2 := hM16.hb.cell 2
            have k3 := hM16.hb.cell 3
            have k4 := hM16.hb.cell 4
            simp only [BrkV.cells, List.getElem?_toArray, List.getElem?_cons_zero, List.getElem?_cons_succ] at cp16 k0 k1 k2 k3 k4
            clear hM16
            by_cases hj0 : kj = 0
            rotate_left
            go_wp2_with fail
            focus
              have hM18 := HM16.out.put 4 (.bool true) (why' := kj) (js' := true) (by omega) (by rfl)
              have HLS := HLE.out
              clear k0 k1 k2 k3 k4 q16 cp16 lb16 lp16 HM16
              generalize w16.setCell ⟨wr.heap.size + 1, 4, none⟩ (.bool true) = w18 at *
              have HM18 := Lib.hid hM18
              have lb18 := hM18.hb.lt
              have lp18 := hM18.ls.blk.lt
              have cp18 : w18.cell? ⟨pb, 0, none⟩ = _ := hM18.ls.blk.cell 0
              have k0 := hM18.hb.cell 0
              have k1 := hM18.hb.cell 1
              have k2 := hM18.hb.cell 2
              have k3 := hM18.hb.cell 3
              have k4 := hM18.hb.cell 4
              simp only [BrkV.cells, List.getElem?_toArray, List.getElem?_cons_zero, List.getElem?_cons_succ] at cp18 k0 k1 k2 k3 k4
              clear hM18
              have hb19 : Below w18.heap.size w18 (w18.alloc (.cells #[.string nm, .string f1, .int .i64 fa, .int .i64 kj, .bool true] 46)).drew := ((Below.refl _ _).alloc (Nat.le_refl _) _).drew
              have HO19 : Hid (Ew BrkV.cells 46 5 (w18.alloc (.cells #[.string nm, .string f1, .int .i64 fa, .int .i64 kj, .bool true] 46)).drew (pb + 1) (.slice A16 L2.length c16) L2) := Lib.hid (HM18.out.ls.own.below hb19)
              have HR19 : Hid (RS BrkV.cells 5 (w18.alloc (.cells #[.string nm, .string f1, .int .i64 fa, .int .i64 kj, .bool true] 46)).drew (w18.heap.size + 1) (some ⟨w18.heap.size, 0, none⟩) 1 [⟨nm, f1, fa, kj, true⟩]) := Lib.hid (by
                have h := (Ew.lit (k := 5) BrkV.cells 46 (fun _ => rfl) w18 [⟨nm, f1, fa, kj, true⟩] (by simp)).rs (fun _ => rfl) (by omega)
                have h2 : RS BrkV.cells 5 (w18.alloc (.cells #[.string nm, .string f1, .int .i64 fa, .int .i64 kj, .bool true] 46)) _ (some ⟨w18.heap.size, 0, none⟩) 1 [⟨nm, f1, fa, kj, true⟩] := h
                have h3 := h2.below ((Below.refl _ _).drew)
                simpa using h3)
              have HB19 := Lib.hid hb19
              clear hb19
              go_region_law ((refine step_app_e elBrkL _ (by rfl) (.tmp 81) (.tmp 83) (by rfl) (pb + 1) (.slice A16 L2.length c16) L2 (by rfl) HO19.out (w18.heap.size + 1) (some ⟨w18.heap.size, 0, none⟩) 1 1 [⟨nm, f1, fa, kj, true⟩] (by rfl) HR19.out (by have := HL2.out; omega) (by simp; omega) ?_
                              intro A20 c20 w20 hown hg hv
                              have HG20 := Lib.hid hg
                              have HO20 := Lib.hid hown
                              have HV20 := Lib.hid hv
                              have hP20 := (HM18.out.ls.blk.below HB19.out HM18.out.ls.blk.lt).grown hg (fun e => by have := (HM18.out.ls.own.lt pb e.symm).1; omega)
                              have hf20 : w20.frozen? ⟨pb, 0, none⟩ = false := hP20.frozen 0
                              have hc20 : w20.cell? ⟨pb, 0, none⟩ = some (.slice A16 L2.length c16) := hP20.cell 0
                              clear hown hg hv hP20))
              all_goals
                have hM21 := HM18.out.app HB19.out HO20.out HG20.out HV20.out
                generalize Value.slice A20 (L2.length + 1) c20 = v21 at *
                have hW : L2 ++ [⟨nm, f1, fa, kj, true⟩] = L2 ++ whyL ⟨nm, f1, fa, 0, true⟩ kj := by rw [whyL, if_neg hj0]
                rw [hW] at hM21
                clear hW HG20 HO20 HV20 hf20 hc20 HB19 HO19 HR19 k0 k1 k2 k3 k4 cp18 lb18 lp18 HM18
                generalize w20.setCell ⟨pb, 0, none⟩ v21 = w21 at *
                have HM21 := Lib.hid hM21
                clear hM21
                go_wp2_with fail
            rotate_right
            focus
              have HM21 : Hid (Mid pb wr.heap.size (wr.heap.size + 1) b11 w3 (.slice A L.length c) nm ⟨f1, f2, f3, f4, fa, fb, fcc, fp, fq, fr⟩ ⟨g1, g2, g3, g4, ga, gb, gcc, gp, gq, gr⟩ (L2 ++ whyL ⟨nm, f1, fa, 0, true⟩ kj) kj false w16 (.slice A16 L2.length c16)) := Lib.hid (by
                rw [whyL, if_pos hj0, List.append_nil]
                exact HM16.out)
            all_goals
              refine ⟨⟨k + 1, by omega, by simp, Lib.hid ⟨_, ⟨?_, HM21.out.st⟩⟩⟩, by simp [intOf]; omega⟩
              rw [HFT.out]
              have e22 : fldBrk nm gs ⟨f1, f2, f3, f4, fa, fb, fcc, fp, fq, fr⟩ = twoBrk nm ⟨f1, f2, f3, f4, fa, fb, fcc, fp, fq, fr⟩ ⟨g1, g2, g3, g4, ga, gb, gcc, gp, gq, gr⟩ := by
                unfold fldBrk
                show (match fldAt gs fa with | none => _ | some g => _) = _
                rw [HF5'.out]
              have e23 : L ++ ((fs.take k).flatMap (fldBrk nm gs) ++ twoBrk nm ⟨f1, f2, f3, f4, fa, fb, fcc, fp, fq, fr⟩ ⟨g1, g2, g3, g4, ga, gb, gcc, gp, gq, gr⟩) = L2 ++ whyL ⟨nm, f1, fa, 0, true⟩ kj := by
                rw [← HLF.out, ← HLE.out, HKW.out, HKJ.out, List.append_assoc, List.append_assoc]
                rfl
              rw [e22, e23]
              exact HM21.out.ls
      · obtain rfl : k = fn := by omega
        have HJ := Lib.hid hJ
        clear hJ hh
        go_wp2
        go_end0
        have hD := HD.out
        rw [HF.out] at hD
        rw [hD]
        have h1 := HJ.out.ls
        rw [List.take_of_length_le (by rw [HM.out.1]; exact Nat.le_refl _)] at h1
        exact ⟨rfl, v1, h1, (LStep.of_below HB3.out).trans HJ.out.st⟩
end Go.Proofs.Ytcjcpkjdhagofaa
