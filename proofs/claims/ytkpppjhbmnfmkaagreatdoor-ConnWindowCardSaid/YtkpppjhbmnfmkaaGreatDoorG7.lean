/-
  Contracts: (*Conn).step: a whole frame: where what it does comes back; where it is given up with.
-/
import Derived.Test.YtkpppjhbmnfmkaaGreatDoorJo
import Derived.Test.YtkpppjhbmnfmkaaGreatDoorG3
set_option linter.unusedSimpArgs false
set_option linter.unusedVariables false
namespace Go.Own.Fr
theorem frame_parts (t f s : Nat) (p r : List UInt8) (ht : t ≤ 255) (hf : f ≤ 255) (hs : s ≤ 2147483647) (hp : p.length < 16777216) :
    ofB 0 ((frameB t f s p ++ r).take 3) = p.length ∧ ((frameB t f s p ++ r).getD 3 0).toNat = t ∧ ((frameB t f s p ++ r).getD 4 0).toNat = f ∧ low (ofB 0 (((frameB t f s p ++ r).drop 5).take 4)) = s ∧
    ((frameB t f s p ++ r).drop 9).take p.length = p ∧ (frameB t f s p ++ r).drop (9 + p.length) = r := by
  have e : frameB t f s p ++ r = be p.length 3 ++ (UInt8.ofNat t :: UInt8.ofNat f :: (be s 4 ++ (p ++ r))) := by simp [frameB]
  have e5 : (frameB t f s p ++ r).drop 5 = be s 4 ++ (p ++ r) := by rw [e]; rfl
  have e9 : (frameB t f s p ++ r).drop 9 = p ++ r := by rw [e]; rfl
  refine ⟨?_, ?_, ?_, ?_, ?_, ?_⟩
  · rw [e, List.take_left' (be_len _ _), ofB_be]; omega
  · rw [e]; show (UInt8.ofNat t).toNat = t; simp; omega
  · rw [e]; show (UInt8.ofNat f).toNat = f; simp; omega
  · rw [e5, List.take_left' (be_len _ _), ofB_be]; unfold low; omega
  · rw [e9, List.take_left' rfl]
  · rw [← List.drop_drop, e9, List.drop_left' rfl]
end Go.Own.Fr
namespace Go.Proofs.YtkpppjhbmnfmkaaGreatDoor
open Go.RowKit Go.Own Go.Own.Im Go.Own.Cx Go.Own.Fr
/-- How a frame is taken. -/
def TakesT (M : Cv) (t f s : Nat) (p : List UInt8) (S : Cv → Prop) : Prop := ∀ (w : World) (ow : Nat → Tg) (b : Nat) (L : Lay) (A : Option Addr) (c : Nat), Env w ow → CN w ow b M L → Rd w w.heap.size A p.length p → (0 < p.length → ∀ ad, A = some ad → ow ad.block = .no) → p.length ≤ c →
  Calls Tryz.prog 72 #[.pointer (some ⟨b, 0, none⟩), .agg #[.int .i64 (t : Nat), .int .i64 (f : Nat), .int .i64 (s : Nat), .slice A p.length c]] w (CPostS w ow b S (.tuple #[]))
/-- How a frame is given up with. -/
def TakesP (M : Cv) (t f s : Nat) (p : List UInt8) (S : Cv → Prop) (c0 s0 : Nat) : Prop := ∀ (w : World) (ow : Nat → Tg) (b : Nat) (L : Lay) (A : Option Addr) (c : Nat), Env w ow → CN w ow b M L → Rd w w.heap.size A p.length p → (0 < p.length → ∀ ad, A = some ad → ow ad.block = .no) → p.length ≤ c →
  Calls Tryz.prog 72 #[.pointer (some ⟨b, 0, none⟩), .agg #[.int .i64 (t : Nat), .int .i64 (f : Nat), .int .i64 (s : Nat), .slice A p.length c]] w (PPostS w ow b S c0 s0)
/-- How a fault is met. -/
def FaultT (M : Cv) (c0 s0 : Nat) (S : Cv → Prop) : Prop := ∀ (w : World) (ow : Nat → Tg) (b : Nat) (L : Lay), CN w ow b M L →
  Calls Tryz.prog 69 #[.pointer (some ⟨b, 0, none⟩), .agg #[.int .i64 (c0 : Nat), .int .i64 (s0 : Nat)]] w (CPostS w ow b S (.tuple #[]))
set_option maxHeartbeats 8000000 in
set_option maxRecDepth 100000 in
/-- Where what it does comes back. -/
theorem step_takes (M : Cv) (S : Cv → Prop) (t f s : Nat) (p r : List UInt8) (hp24 : M.preface = 24) (hl : M.fed = frameB t f s p ++ r) (ht : t ≤ 255) (hf : f ≤ 255) (hs : s ≤ 2147483647) (hp : p.length ≤ 16384) (hT : TakesT { M with fed := r } t f s p S) : StepT M true S := by
  intro w ow b L hE h
  have HB0 := Lib.hid (((Below.refl w.heap.size w).alloc (Nat.le_refl _) (.cells #[.pointer (some ⟨b, 0, none⟩)] 26)).alloc (by simp) (.cells #[.bool false] 4))
  have X0 := Lib.hid ((Blk.new w 26 #[.pointer (some ⟨b, 0, none⟩)]).alloc (.cells #[.bool false] 4))
  have X1 := Lib.hid (Blk.new (w.alloc (.cells #[.pointer (some ⟨b, 0, none⟩)] 26)) 4 #[.bool false])
  have HC := Lib.hid h
  have HPf := Lib.hid hp24
  have HL := Lib.hid hl
  have HE := Lib.hid hE
  have HT := Lib.hid hT
  have HFP := Lib.hid (frame_parts t f s p r ht hf hs (by omega))
  have HBd := Lib.hid hp
  clear h hl hp24 hE hT ht hf hs hp
  simp only [World.size_alloc] at X1
  go_enter_defers Tryz.func40, Tryz.ntmps40
  go_upto_region 1 with fail
  generalize (w.alloc (.cells #[.pointer (some ⟨b, 0, none⟩)] 26)).alloc (.cells #[.bool false] 4) = W0 at *
  have HP := Lib.hid (preface_any W0)
  go_wp2_with fail
  refine HP.out.mono ?_
  rintro e w1 ⟨rfl, hr1, hb1⟩
  have HB1 := Lib.hid (HB0.out.trans (hb1.mono HB0.out.size))
  have HC1 := Lib.hid (HC.out.below HB1.out)
  have HX0 := Lib.hid (X0.out.below hb1 X0.out.lt)
  have HX1 := Lib.hid (X1.out.below hb1 X1.out.lt)
  have hoz := HC1.out.p.fed
  obtain ⟨A0, c0, hL0, hle0, _⟩ := hoz.form
  rw [hL0] at hoz
  have hrd := hoz.rd
  obtain ⟨n, hn⟩ : ∃ n, M.fed.length = n := ⟨_, rfl⟩
  rw [hn] at hL0 hle0 hrd
  have hnl : 9 + p.length ≤ n := by rw [← hn, HL.out, List.length_append, frameB_len]; omega
  have c3 : w1.cell? ⟨b, 3, none⟩ = some L.fed := HC1.out.blk.cell 3
  rw [hL0] at c3
  have c5 : w1.cell? ⟨b, 5, none⟩ = some (.int .i64 (M.preface : Nat)) := HC1.out.blk.cell 5
  rw [HPf.out] at c5
  have x0 : w1.cell? ⟨w.heap.size, 0, none⟩ = some (.pointer (some ⟨b, 0, none⟩)) := HX0.out.cell 0
  have hget := fget_any A0 n c0 M.fed w1 w1.heap.size 16384 p.length hrd (Nat.le_refl _) hle0 (by rw [HL.out]; exact HFP.out.1) HBd.out hnl (by decide)
  rw [HL.out, HFP.out.2.1, HFP.out.2.2.1, HFP.out.2.2.2.1, HFP.out.2.2.2.2.1] at hget
  obtain ⟨q, hq⟩ : ∃ q, 9 + p.length = q := ⟨_, rfl⟩
  rw [hq] at hget hnl
  have HGet := Lib.hid hget
  have HL0 := Lib.hid hL0
  have HN := Lib.hid hn
  clear hoz hr1 hb1 hL0 hget hrd hn
  go_wp2_with fail
  refine HGet.out.mono ?_
  rintro e w2 ⟨A1, c1, rfl, ho2, hb2⟩
  have hge := hb2.size
  have HOw := Lib.hid ho2
  have HC2 := Lib.hid (HC1.out.below hb2)
  have HX0a := Lib.hid ((HX0.out.below hb2 HX0.out.lt).alloc (.cells #[.int .i64 (t : Nat), .int .i64 (f : Nat), .int .i64 (s : Nat), .slice A1 p.length c1] 24))
  have HX1a := Lib.hid ((HX1.out.below hb2 HX1.out.lt).alloc (.cells #[.int .i64 (t : Nat), .int .i64 (f : Nat), .int .i64 (s : Nat), .slice A1 p.length c1] 24))
  have HFr := Lib.hid (Blk.new w2 24 #[.int .i64 (t : Nat), .int .i64 (f : Nat), .int .i64 (s : Nat), .slice A1 p.length c1])
  have HB2 := Lib.hid (HB1.out.trans (hb2.mono HB1.out.size))
  have HB3 := Lib.hid (HB2.out.alloc HB2.out.size (.cells #[.int .i64 (t : Nat), .int .i64 (f : Nat), .int .i64 (s : Nat), .slice A1 p.length c1] 24))
  have HC3 := Lib.hid (HC2.out.alloc (.cells #[.int .i64 (t : Nat), .int .i64 (f : Nat), .int .i64 (s : Nat), .slice A1 p.length c1] 24))
  have HOw3 := Lib.hid (ho2.alloc (.cells #[.int .i64 (t : Nat), .int .i64 (f : Nat), .int .i64 (s : Nat), .slice A1 p.length c1] 24))
  clear c3 c5 x0 hb2 ho2
  go_upto_region 12 with fail
  obtain ⟨gf, hgf⟩ : ∃ g, w2.heap.size = g := ⟨_, rfl⟩
  rw [hgf] at HFr ⊢
  generalize w2.alloc (.cells #[.int .i64 (t : Nat), .int .i64 (f : Nat), .int .i64 (s : Nat), .slice A1 p.length c1] 24) = W3 at *
  have c3 : W3.cell? ⟨b, 3, none⟩ = some L.fed := HC3.out.blk.cell 3
  rw [HL0.out] at c3
  have f3 := HC3.out.blk.frozen 3
  have x0 : W3.cell? ⟨w.heap.size, 0, none⟩ = some (.pointer (some ⟨b, 0, none⟩)) := HX0a.out.cell 0
  obtain ⟨A', hA'⟩ : ∃ A', (if c0 = q then A0 else A0.map fun y => y.add q) = A' := ⟨_, rfl⟩
  have hrun : ∀ W, (Instr.slice 22 (.slice A0 n c0) (some (.int .i64 (q : Int))) none none).run Tryz.prog W = .ok (.slice A' (n - q) (c0 - q)) W := fun W => by
    have := run_from (P := Tryz.prog) (t := 22) byteP A0 n c0 q hnl hle0 W
    rw [hA'] at this
    exact this
  have HA := Lib.hid hA'
  have hbl := HC1.out.blk.lt
  have hbw := HC.out.blk.lt
  clear hA'
  go_upto_region 17 with fail
  go_region
  all_goals
    have hdrop : M.fed.drop q = r := by rw [HL.out, ← hq]; exact HFP.out.2.2.2.2.2
    have a2 := HC3.out.cuts (k := q) HL0.out hnl HA.out
    have a3 : CN ((W3.setCell ⟨b, 3, none⟩ (.slice A' (n - q) (c0 - q))).drew) ow b { M with fed := M.fed.drop q } { L with fed := .slice A' (n - q) (c0 - q) } := a2.1.drew
    rw [hdrop] at a3
    have HC4 := Lib.hid a3
    have HF4 := Lib.hid (show Fr w ow ((W3.setCell ⟨b, 3, none⟩ (.slice A' (n - q) (c0 - q))).drew) ow from ((Fr.below HB3.out ow).trans a2.2).drew)
    have HX0b := Lib.hid (show Blk ((W3.setCell ⟨b, 3, none⟩ (.slice A' (n - q) (c0 - q))).drew) w.heap.size 26 #[.pointer (some ⟨b, 0, none⟩)] from HX0a.out.far (p := ⟨b, 3, none⟩) (by show w.heap.size ≠ b; omega) _)
    have HX1b := Lib.hid (show Blk ((W3.setCell ⟨b, 3, none⟩ (.slice A' (n - q) (c0 - q))).drew) (w.heap.size + 1) 4 #[.bool false] from HX1a.out.far (p := ⟨b, 3, none⟩) (by show w.heap.size + 1 ≠ b; omega) _)
    have HFb := Lib.hid (show Blk ((W3.setCell ⟨b, 3, none⟩ (.slice A' (n - q) (c0 - q))).drew) gf 24 #[.int .i64 (t : Nat), .int .i64 (f : Nat), .int .i64 (s : Nat), .slice A1 p.length c1] from HFr.out.far (p := ⟨b, 3, none⟩) (by show gf ≠ b; omega) _)
    have how : Ow (W3.setCell ⟨b, 3, none⟩ (.slice A' (n - q) (c0 - q))) w1.heap.size 5 (.slice A1 p.length c1) p.length p := HOw3.out.grown (grown_setCell (World.grownBy.refl W3 (some b)) 3 _) (.inr fun e => by have := (HOw3.out.lt e).2; omega)
    have HRd := Lib.hid (show Rd ((W3.setCell ⟨b, 3, none⟩ (.slice A' (n - q) (c0 - q))).drew) ((W3.setCell ⟨b, 3, none⟩ (.slice A' (n - q) (c0 - q))).drew).heap.size A1 p.length p from how.rd)
    have HLe := Lib.hid (show p.length ≤ c1 by
      obtain ⟨_, _, e3, h3, _⟩ := how.form
      injection e3 with _ _ e4
      omega)
    have HNo := Lib.hid (show 0 < p.length → ∀ ad, A1 = some ad → ow ad.block = .no from fun hpos ad ha => by
      refine HC1.out.new _ ?_
      rcases how.2 with ⟨e, h0⟩ | ⟨g, cap, cur, e, hb, _⟩
      · omega
      · injection e with e
        rw [ha] at e
        injection e with e
        rw [e]; exact hb)
    have HN1 := Lib.hid (show ow (w.heap.size + 1) = .no from HC.out.new _ (by omega))
    have HN0 := Lib.hid (show ow w.heap.size = .no from HC.out.new _ (by omega))
    clear a2 a3 how c3 f3 x0 hrun
    generalize (W3.setCell ⟨b, 3, none⟩ (.slice A' (n - q) (c0 - q))).drew = W4 at *
    have x0 : W4.cell? ⟨w.heap.size, 0, none⟩ = some (.pointer (some ⟨b, 0, none⟩)) := HX0b.out.cell 0
    have y0 : W4.cell? ⟨gf, 0, none⟩ = some (.int .i64 (t : Nat)) := HFb.out.cell 0
    have y1 : W4.cell? ⟨gf, 1, none⟩ = some (.int .i64 (f : Nat)) := HFb.out.cell 1
    have y2 : W4.cell? ⟨gf, 2, none⟩ = some (.int .i64 (s : Nat)) := HFb.out.cell 2
    have y3 : W4.cell? ⟨gf, 3, none⟩ = some (.slice A1 p.length c1) := HFb.out.cell 3
    go_wp2_with fail
    refine (HT.out W4 ow b _ A1 c1 (HE.out.fr HF4.out) HC4.out HRd.out HNo.out HLe.out).mono ?_
    intro e w5 hp5
    obtain rfl := hp5.ret
    obtain ⟨M5, ow5, L5, hs5, hc5, hf5⟩ := hp5.out
    have HX1c := Lib.hid (hf5.blk HX1b.out HN1.out)
    have hno5 : ow5 (w.heap.size + 1) = .no := hf5.no _ HX1b.out.lt HN1.out
    have z0 : w5.cell? ⟨w.heap.size + 1, 0, none⟩ = some (.bool false) := HX1c.out.cell 0
    have zf := HX1c.out.frozen 0
    have HQ := Lib.hid (show S M5 ∧ CN w5 ow5 b M5 L5 ∧ Fr w ow w5 ow5 ∧ ow5 (w.heap.size + 1) = .no from ⟨hs5, hc5, HF4.out.trans hf5, hno5⟩)
    clear hs5 hc5 hf5 hno5 x0 y0 y1 y2 y3 hp5
    go_wp2
    refine leaves_cons (f := 68) (args := #[.pointer (some ⟨w.heap.size + 1, 0, none⟩), .pointer (some ⟨w.heap.size, 0, none⟩)]) (by simp) (by simp [go_sem]) ?_
    refine (step1_idle _ _ _).mono ?_
    rintro e u' w'' ⟨rfl, rfl, rfl⟩
    exact ⟨_, results_step _ _ (w.heap.size + 1) _ rfl ((HX1c.out.put 0 _).cell 0), M5, HQ.out.1, ow5, _, rfl, HQ.out.2.1.nos HQ.out.2.2.2 0 _, HQ.out.2.2.1.put (by omega) 0 _⟩
set_option maxHeartbeats 8000000 in
set_option maxRecDepth 100000 in
/-- Where it is given up with. -/
theorem step_panics (M : Cv) (S1 S : Cv → Prop) (t f s c9 s9 : Nat) (p r : List UInt8) (hp24 : M.preface = 24) (hl : M.fed = frameB t f s p ++ r) (ht : t ≤ 255) (hf : f ≤ 255) (hs : s ≤ 2147483647) (hp : p.length ≤ 16384) (hT : TakesP { M with fed := r } t f s p S1 c9 s9) (hF : ∀ M1, S1 M1 → FaultT M1 c9 s9 S) : StepT M true S := by
  intro w ow b L hE h
  have HB0 := Lib.hid (((Below.refl w.heap.size w).alloc (Nat.le_refl _) (.cells #[.pointer (some ⟨b, 0, none⟩)] 26)).alloc (by simp) (.cells #[.bool false] 4))
  have X0 := Lib.hid ((Blk.new w 26 #[.pointer (some ⟨b, 0, none⟩)]).alloc (.cells #[.bool false] 4))
  have X1 := Lib.hid (Blk.new (w.alloc (.cells #[.pointer (some ⟨b, 0, none⟩)] 26)) 4 #[.bool false])
  have HC := Lib.hid h
  have HPf := Lib.hid hp24
  have HL := Lib.hid hl
  have HFt := Lib.hid hF
  clear hF
  have HE := Lib.hid hE
  have HT := Lib.hid hT
  have HFP := Lib.hid (frame_parts t f s p r ht hf hs (by omega))
  have HBd := Lib.hid hp
  clear h hl hp24 hE hT ht hf hs hp
  simp only [World.size_alloc] at X1
  go_enter_defers Tryz.func40, Tryz.ntmps40
  go_upto_region 1 with fail
  generalize (w.alloc (.cells #[.pointer (some ⟨b, 0, none⟩)] 26)).alloc (.cells #[.bool false] 4) = W0 at *
  have HP := Lib.hid (preface_any W0)
  go_wp2_with fail
  refine HP.out.mono ?_
  rintro e w1 ⟨rfl, hr1, hb1⟩
  have HB1 := Lib.hid (HB0.out.trans (hb1.mono HB0.out.size))
  have HC1 := Lib.hid (HC.out.below HB1.out)
  have HX0 := Lib.hid (X0.out.below hb1 X0.out.lt)
  have HX1 := Lib.hid (X1.out.below hb1 X1.out.lt)
  have hoz := HC1.out.p.fed
  obtain ⟨A0, c0, hL0, hle0, _⟩ := hoz.form
  rw [hL0] at hoz
  have hrd := hoz.rd
  obtain ⟨n, hn⟩ : ∃ n, M.fed.length = n := ⟨_, rfl⟩
  rw [hn] at hL0 hle0 hrd
  have hnl : 9 + p.length ≤ n := by rw [← hn, HL.out, List.length_append, frameB_len]; omega
  have c3 : w1.cell? ⟨b, 3, none⟩ = some L.fed := HC1.out.blk.cell 3
  rw [hL0] at c3
  have c5 : w1.cell? ⟨b, 5, none⟩ = some (.int .i64 (M.preface : Nat)) := HC1.out.blk.cell 5
  rw [HPf.out] at c5
  have x0 : w1.cell? ⟨w.heap.size, 0, none⟩ = some (.pointer (some ⟨b, 0, none⟩)) := HX0.out.cell 0
  have hget := fget_any A0 n c0 M.fed w1 w1.heap.size 16384 p.length hrd (Nat.le_refl _) hle0 (by rw [HL.out]; exact HFP.out.1) HBd.out hnl (by decide)
  rw [HL.out, HFP.out.2.1, HFP.out.2.2.1, HFP.out.2.2.2.1, HFP.out.2.2.2.2.1] at hget
  obtain ⟨q, hq⟩ : ∃ q, 9 + p.length = q := ⟨_, rfl⟩
  rw [hq] at hget hnl
  have HGet := Lib.hid hget
  have HL0 := Lib.hid hL0
  have HN := Lib.hid hn
  clear hoz hr1 hb1 hL0 hget hrd hn
  go_wp2_with fail
  refine HGet.out.mono ?_
  rintro e w2 ⟨A1, c1, rfl, ho2, hb2⟩
  have hge := hb2.size
  have HOw := Lib.hid ho2
  have HC2 := Lib.hid (HC1.out.below hb2)
  have HX0a := Lib.hid ((HX0.out.below hb2 HX0.out.lt).alloc (.cells #[.int .i64 (t : Nat), .int .i64 (f : Nat), .int .i64 (s : Nat), .slice A1 p.length c1] 24))
  have HX1a := Lib.hid ((HX1.out.below hb2 HX1.out.lt).alloc (.cells #[.int .i64 (t : Nat), .int .i64 (f : Nat), .int .i64 (s : Nat), .slice A1 p.length c1] 24))
  have HFr := Lib.hid (Blk.new w2 24 #[.int .i64 (t : Nat), .int .i64 (f : Nat), .int .i64 (s : Nat), .slice A1 p.length c1])
  have HB2 := Lib.hid (HB1.out.trans (hb2.mono HB1.out.size))
  have HB3 := Lib.hid (HB2.out.alloc HB2.out.size (.cells #[.int .i64 (t : Nat), .int .i64 (f : Nat), .int .i64 (s : Nat), .slice A1 p.length c1] 24))
  have HC3 := Lib.hid (HC2.out.alloc (.cells #[.int .i64 (t : Nat), .int .i64 (f : Nat), .int .i64 (s : Nat), .slice A1 p.length c1] 24))
  have HOw3 := Lib.hid (ho2.alloc (.cells #[.int .i64 (t : Nat), .int .i64 (f : Nat), .int .i64 (s : Nat), .slice A1 p.length c1] 24))
  clear c3 c5 x0 hb2 ho2
  go_upto_region 12 with fail
  obtain ⟨gf, hgf⟩ : ∃ g, w2.heap.size = g := ⟨_, rfl⟩
  rw [hgf] at HFr ⊢
  generalize w2.alloc (.cells #[.int .i64 (t : Nat), .int .i64 (f : Nat), .int .i64 (s : Nat), .slice A1 p.length c1] 24) = W3 at *
  have c3 : W3.cell? ⟨b, 3, none⟩ = some L.fed := HC3.out.blk.cell 3
  rw [HL0.out] at c3
  have f3 := HC3.out.blk.frozen 3
  have x0 : W3.cell? ⟨w.heap.size, 0, none⟩ = some (.pointer (some ⟨b, 0, none⟩)) := HX0a.out.cell 0
  obtain ⟨A', hA'⟩ : ∃ A', (if c0 = q then A0 else A0.map fun y => y.add q) = A' := ⟨_, rfl⟩
  have hrun : ∀ W, (Instr.slice 22 (.slice A0 n c0) (some (.int .i64 (q : Int))) none none).run Tryz.prog W = .ok (.slice A' (n - q) (c0 - q)) W := fun W => by
    have := run_from (P := Tryz.prog) (t := 22) byteP A0 n c0 q hnl hle0 W
    rw [hA'] at this
    exact this
  have HA := Lib.hid hA'
  have hbl := HC1.out.blk.lt
  have hbw := HC.out.blk.lt
  clear hA'
  go_upto_region 17 with fail
  go_region
  all_goals
    have hdrop : M.fed.drop q = r := by rw [HL.out, ← hq]; exact HFP.out.2.2.2.2.2
    have a2 := HC3.out.cuts (k := q) HL0.out hnl HA.out
    have a3 : CN ((W3.setCell ⟨b, 3, none⟩ (.slice A' (n - q) (c0 - q))).drew) ow b { M with fed := M.fed.drop q } { L with fed := .slice A' (n - q) (c0 - q) } := a2.1.drew
    rw [hdrop] at a3
    have HC4 := Lib.hid a3
    have HF4 := Lib.hid (show Fr w ow ((W3.setCell ⟨b, 3, none⟩ (.slice A' (n - q) (c0 - q))).drew) ow from ((Fr.below HB3.out ow).trans a2.2).drew)
    have HX0b := Lib.hid (show Blk ((W3.setCell ⟨b, 3, none⟩ (.slice A' (n - q) (c0 - q))).drew) w.heap.size 26 #[.pointer (some ⟨b, 0, none⟩)] from HX0a.out.far (p := ⟨b, 3, none⟩) (by show w.heap.size ≠ b; omega) _)
    have HX1b := Lib.hid (show Blk ((W3.setCell ⟨b, 3, none⟩ (.slice A' (n - q) (c0 - q))).drew) (w.heap.size + 1) 4 #[.bool false] from HX1a.out.far (p := ⟨b, 3, none⟩) (by show w.heap.size + 1 ≠ b; omega) _)
    have HFb := Lib.hid (show Blk ((W3.setCell ⟨b, 3, none⟩ (.slice A' (n - q) (c0 - q))).drew) gf 24 #[.int .i64 (t : Nat), .int .i64 (f : Nat), .int .i64 (s : Nat), .slice A1 p.length c1] from HFr.out.far (p := ⟨b, 3, none⟩) (by show gf ≠ b; omega) _)
    have how : Ow (W3.setCell ⟨b, 3, none⟩ (.slice A' (n - q) (c0 - q))) w1.heap.size 5 (.slice A1 p.length c1) p.length p := HOw3.out.grown (grown_setCell (World.grownBy.refl W3 (some b)) 3 _) (.inr fun e => by have := (HOw3.out.lt e).2; omega)
    have HRd := Lib.hid (show Rd ((W3.setCell ⟨b, 3, none⟩ (.slice A' (n - q) (c0 - q))).drew) ((W3.setCell ⟨b, 3, none⟩ (.slice A' (n - q) (c0 - q))).drew).heap.size A1 p.length p from how.rd)
    have HLe := Lib.hid (show p.length ≤ c1 by
      obtain ⟨_, _, e3, h3, _⟩ := how.form
      injection e3 with _ _ e4
      omega)
    have HNo := Lib.hid (show 0 < p.length → ∀ ad, A1 = some ad → ow ad.block = .no from fun hpos ad ha => by
      refine HC1.out.new _ ?_
      rcases how.2 with ⟨e, h0⟩ | ⟨g, cap, cur, e, hb, _⟩
      · omega
      · injection e with e
        rw [ha] at e
        injection e with e
        rw [e]; exact hb)
    have HN1 := Lib.hid (show ow (w.heap.size + 1) = .no from HC.out.new _ (by omega))
    have HN0 := Lib.hid (show ow w.heap.size = .no from HC.out.new _ (by omega))
    clear a2 a3 how c3 f3 x0 hrun
    generalize (W3.setCell ⟨b, 3, none⟩ (.slice A' (n - q) (c0 - q))).drew = W4 at *
    have x0 : W4.cell? ⟨w.heap.size, 0, none⟩ = some (.pointer (some ⟨b, 0, none⟩)) := HX0b.out.cell 0
    have y0 : W4.cell? ⟨gf, 0, none⟩ = some (.int .i64 (t : Nat)) := HFb.out.cell 0
    have y1 : W4.cell? ⟨gf, 1, none⟩ = some (.int .i64 (f : Nat)) := HFb.out.cell 1
    have y2 : W4.cell? ⟨gf, 2, none⟩ = some (.int .i64 (s : Nat)) := HFb.out.cell 2
    have y3 : W4.cell? ⟨gf, 3, none⟩ = some (.slice A1 p.length c1) := HFb.out.cell 3
    go_wp2_with fail
    refine (HT.out W4 ow b _ A1 c1 (HE.out.fr HF4.out) HC4.out HRd.out HNo.out HLe.out).mono ?_
    intro e w5 hp5
    obtain rfl := hp5.ret
    obtain ⟨M5, ow5, L5, hs5, hc5, hf5⟩ := hp5.out
    have HX1c := Lib.hid (hf5.blk HX1b.out HN1.out)
    have HX0c := Lib.hid (hf5.blk HX0b.out HN0.out)
    have hno5 : ow5 (w.heap.size + 1) = .no := hf5.no _ HX1b.out.lt HN1.out
    have HQ := Lib.hid (show S1 M5 ∧ CN w5 ow5 b M5 L5 ∧ Fr w ow w5 ow5 ∧ ow5 (w.heap.size + 1) = .no from ⟨hs5, hc5, HF4.out.trans hf5, hno5⟩)
    clear hs5 hc5 hf5 hno5 x0 y0 y1 y2 y3 hp5
    go_wp2
    refine leaves_cons (f := 68) (args := #[.pointer (some ⟨w.heap.size + 1, 0, none⟩), .pointer (some ⟨w.heap.size, 0, none⟩)]) (by simp) (by simp [go_sem]) ?_
    refine (step1_fault w5 ow5 b (w.heap.size + 1) w.heap.size M5 S L5 c9 s9 false HQ.out.2.1 HX1c.out HX0c.out HQ.out.2.2.2 (by omega) (fun W hcW _ => HFt.out M5 HQ.out.1 W ow5 b L5 hcW)).mono ?_
    rintro e u' w'' ⟨rfl, rfl, hq9⟩
    obtain ⟨M6, ow6, L6, hs6, hc6, hf6⟩ := hq9.out
    have hlast := hf6.blk (HX1c.out.put 0 (.bool true)) HQ.out.2.2.2
    have hfr := (HQ.out.2.2.1.put (w := w) (g := w.heap.size + 1) (by omega) 0 (.bool true)).trans hf6
    have hno6 := hf6.no (w.heap.size + 1) (HX1c.out.put 0 (.bool true)).lt HQ.out.2.2.2
    exact ⟨_, results_step _ _ (w.heap.size + 1) _ rfl (hlast.cell 0), M6, hs6, ow6, _, rfl, hc6, hfr⟩
end Go.Proofs.YtkpppjhbmnfmkaaGreatDoor
