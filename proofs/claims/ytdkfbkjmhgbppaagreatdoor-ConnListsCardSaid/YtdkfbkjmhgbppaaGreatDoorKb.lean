/-
  Contracts: (*Conn).piece of a piece that is not the last; of one with which there are too many bytes; CONTINUATION's function.
  Contract: (*Conn).takes: a CONTINUATION that goes on with the list under way.
  What pieces of a header list do: the first one, one more, one too many.
  Contracts: what HEADERS does to a client whose stream is there; the first piece, at a client.
  The states of an end that pieces of a list come to (ConnLists). No program text is walked here.
-/
import Derived.Test.YtdkfbkjmhgbppaaGreatDoorJj
import Derived.Deep.RegionLaw
import Derived.Test.YtdkfbkjmhgbppaaGreatDoorG3
import Derived.BigQuiet
import Derived.Deep.RegionHeld3
import Derived.Test.YtdkfbkjmhgbppaaGreatDoorJr
import Derived.Test.YtdkfbkjmhgbppaaGreatDoorJw
set_option linter.unusedSimpArgs false
set_option linter.unusedVariables false
section
namespace Go.Proofs.YtdkfbkjmhgbppaaGreatDoor
open Go.RowKit Go.Own Go.Own.Im Go.Own.Cx Go.Own.Fr
attribute [local go_sem] Oper.semAt_some
set_option maxHeartbeats 8000000 in
set_option maxRecDepth 100000 in
theorem piece_more (w : World) (ow : Nat → Tg) (b : Nat) (M : Cv) (L : Lay) (id : Nat) (fin : Bool) (l0 l1 : List UInt8) (i : Inf) (sv : Value) (A : Option Addr) (n c : Nat) (h : CN w ow b M L) (hL : M.list = some (id, fin, l0)) (he : i.endHeads = false) (hr : Rd w w.heap.size A n l1) (hn : l0.length + n ≤ 16384) :
    Calls Tryz.prog 135 #[.pointer (some ⟨b, 0, none⟩), .agg (infC i sv (.slice A n c))] w (CPostS w ow b (fun M' => M' = { M with list := some (id, fin, l0 ++ l1) }) (.tuple #[])) := by
  have HX := Lib.hid (Blk.new w 82 (infC i sv (.slice A n c)))
  have HB0 := Lib.hid ((Below.refl w.heap.size w).alloc (Nat.le_refl _) (.cells (infC i sv (.slice A n c)) 82))
  have HC := Lib.hid h
  have HR := Lib.hid hr
  have HLs := Lib.hid hL
  have HE := Lib.hid he
  clear h hr hL he
  go_enter Tryz.func135, Tryz.ntmps135
  go_upto_region 1 with fail
  generalize w.alloc (.cells (infC i sv (.slice A n c)) 82) = W0 at *
  have HC0 := Lib.hid (HC.out.below HB0.out)
  have hlst := HC0.out.p.lst
  rw [HLs.out] at hlst
  obtain ⟨gp, bv, hLl, htg, hbp, hoz⟩ := hlst
  obtain ⟨A0, c0, rfl, _, _⟩ := hoz.form
  have c16 : W0.cell? ⟨b, 16, none⟩ = some L.list := HC0.out.blk.cell 16
  rw [hLl] at c16
  have p2 : W0.cell? ⟨gp, 2, none⟩ = some (.slice A0 l0.length c0) := hbp.cell 2
  have x17 : W0.cell? ⟨w.heap.size, 17, none⟩ = some (.slice A n c) := HX.out.cell 17
  have x4 : W0.cell? ⟨w.heap.size, 4, none⟩ = some (.bool i.endHeads) := HX.out.cell 4
  rw [HE.out] at x4
  have HOz := Lib.hid (show Oz W0.drew (fun g => ow g = .blk) (.slice A0 l0.length c0) l0 from hoz.drew)
  have HR1 := Lib.hid (show Rd W0.drew w.heap.size A n l1 from (HR.out.below HB0.out).drew)
  have HGp := Lib.hid htg
  have HBp := Lib.hid (show Blk W0.drew gp 174 #[.int .i64 (id : Nat), .bool fin, .slice A0 l0.length c0] from hbp)
  have HLl := Lib.hid hLl
  have HLn := Lib.hid (show l0.length + n ≤ 140737488355328 by omega)
  have HX0 := Lib.hid (show Blk W0.drew w.heap.size 82 (infC i sv (.slice A n c)) from HX.out)
  have HCb := Lib.hid (show Blk W0.drew b 71 (cnC M L) from HC0.out.blk)
  have HTb := Lib.hid HC0.out.tb
  clear hoz htg hbp hLl
  go_region_law
    ((refine step_app_z byteP _ (by rfl) (.tmp 18) (.tmp 20) (by rfl) (fun g => ow g = .blk) (.slice A0 l0.length c0) l0 (by rfl) HOz.out w.heap.size A n c l1 (by rfl) HR1.out HLn.out ?_
      intro A8 c8 w8 row8 hO8 hg8 hr8
      have HO8 := Lib.hid hO8
      have HG8 := Lib.hid hg8
      have HR8 := Lib.hid hr8
      have hP8 := HBp.out.grown hg8 (fun e => by have h1 := (hr8 gp e.symm).1; rw [HGp.out] at h1; cases h1)
      have hf8 : w8.frozen? ⟨gp, 2, none⟩ = false := hP8.frozen 2
      have hc8 : w8.cell? ⟨gp, 2, none⟩ = some (.slice A0 l0.length c0) := hP8.cell 2
      have hB8 := HCb.out.grown hg8 (fun e => by have h1 := (hr8 b e.symm).1; rw [HTb.out] at h1; cases h1)
      have hb16 : w8.cell? ⟨b, 16, none⟩ = some (.pointer (some ⟨gp, 0, none⟩)) := by have h := hB8.cell 16; rw [← HLl.out]; exact h
      clear hP8 hB8 hO8 hg8 hr8))
  all_goals
    obtain ⟨ow1, hc9, hf9, htg9, hb9⟩ := (show CN W0.drew ow b M L from HC0.out.drew).blocks HLs.out HLl.out HGp.out HBp.out HO8.out HG8.out HR8.out
    have HC9 := Lib.hid hc9
    have HF9 := Lib.hid (show Fr w ow _ ow1 from ((Fr.below HB0.out ow).trans (Fr.drewN _ ow 1)).trans hf9)
    have HT9 := Lib.hid htg9
    have HB9 := Lib.hid hb9
    have y16 : (w8.setCell ⟨gp, 2, none⟩ (.slice A8 (l0.length + n) c8)).cell? ⟨b, 16, none⟩ = some (.pointer (some ⟨gp, 0, none⟩)) := by have h := hc9.blk.cell 16; rw [← HLl.out]; exact h
    have y2 : (w8.setCell ⟨gp, 2, none⟩ (.slice A8 (l0.length + n) c8)).cell? ⟨gp, 2, none⟩ = some (.slice A8 (l0.length + n) c8) := hb9.cell 2
    have yf := hc9.blk.frozen 16
    have yx : (w8.setCell ⟨gp, 2, none⟩ (.slice A8 (l0.length + n) c8)).cell? ⟨w.heap.size, 4, none⟩ = some (.bool false) := by
      have hno : ow w.heap.size = .no := HC.out.new _ (Nat.le_refl _)
      have h1 := ((hf9.blk HX0.out hno)).cell 4
      rw [← HE.out]; exact h1
    clear hc9 hf9 htg9 hb9 hf8 hc8 hb16
    generalize w8.setCell ⟨gp, 2, none⟩ (.slice A8 (l0.length + n) c8) = W9 at *
    have hle : ¬ (16384 : Int) < ((l0.length + n : Nat) : Int) := by omega
    go_wp2
    refine bodyPost_ret (v := .tuple #[]) (by simp [results, Tryz.results135]) rfl ⟨_, rfl, ow1, L, rfl, HC9.out, HF9.out⟩
set_option maxHeartbeats 8000000 in
set_option maxRecDepth 100000 in
theorem piece_over (w : World) (ow : Nat → Tg) (b : Nat) (M : Cv) (L : Lay) (id : Nat) (fin : Bool) (l0 l1 : List UInt8) (i : Inf) (sv : Value) (A : Option Addr) (n c : Nat) (h : CN w ow b M L) (hL : M.list = some (id, fin, l0)) (he : i.endHeads = i.endHeads) (hr : Rd w w.heap.size A n l1) (hn : 16384 < l0.length + n ∧ l0.length + n ≤ 1000000) :
    Calls Tryz.prog 135 #[.pointer (some ⟨b, 0, none⟩), .agg (infC i sv (.slice A n c))] w (PPostS w ow b (fun M' => M' = { M with list := some (id, fin, l0 ++ l1) }) 11 0) := by
  have HX := Lib.hid (Blk.new w 82 (infC i sv (.slice A n c)))
  have HB0 := Lib.hid ((Below.refl w.heap.size w).alloc (Nat.le_refl _) (.cells (infC i sv (.slice A n c)) 82))
  have HC := Lib.hid h
  have HR := Lib.hid hr
  have HLs := Lib.hid hL
  have HE := Lib.hid he
  clear h hr hL he
  go_enter Tryz.func135, Tryz.ntmps135
  go_upto_region 1 with fail
  generalize w.alloc (.cells (infC i sv (.slice A n c)) 82) = W0 at *
  have HC0 := Lib.hid (HC.out.below HB0.out)
  have hlst := HC0.out.p.lst
  rw [HLs.out] at hlst
  obtain ⟨gp, bv, hLl, htg, hbp, hoz⟩ := hlst
  obtain ⟨A0, c0, rfl, _, _⟩ := hoz.form
  have c16 : W0.cell? ⟨b, 16, none⟩ = some L.list := HC0.out.blk.cell 16
  rw [hLl] at c16
  have p2 : W0.cell? ⟨gp, 2, none⟩ = some (.slice A0 l0.length c0) := hbp.cell 2
  have x17 : W0.cell? ⟨w.heap.size, 17, none⟩ = some (.slice A n c) := HX.out.cell 17
  have x4 : W0.cell? ⟨w.heap.size, 4, none⟩ = some (.bool i.endHeads) := HX.out.cell 4
  have HOz := Lib.hid (show Oz W0.drew (fun g => ow g = .blk) (.slice A0 l0.length c0) l0 from hoz.drew)
  have HR1 := Lib.hid (show Rd W0.drew w.heap.size A n l1 from (HR.out.below HB0.out).drew)
  have HGp := Lib.hid htg
  have HBp := Lib.hid (show Blk W0.drew gp 174 #[.int .i64 (id : Nat), .bool fin, .slice A0 l0.length c0] from hbp)
  have HLl := Lib.hid hLl
  have HLn := Lib.hid (show l0.length + n ≤ 140737488355328 by omega)
  have HX0 := Lib.hid (show Blk W0.drew w.heap.size 82 (infC i sv (.slice A n c)) from HX.out)
  have HCb := Lib.hid (show Blk W0.drew b 71 (cnC M L) from HC0.out.blk)
  have HTb := Lib.hid HC0.out.tb
  clear hoz htg hbp hLl
  go_region_law
    ((refine step_app_z byteP _ (by rfl) (.tmp 18) (.tmp 20) (by rfl) (fun g => ow g = .blk) (.slice A0 l0.length c0) l0 (by rfl) HOz.out w.heap.size A n c l1 (by rfl) HR1.out HLn.out ?_
      intro A8 c8 w8 row8 hO8 hg8 hr8
      have HO8 := Lib.hid hO8
      have HG8 := Lib.hid hg8
      have HR8 := Lib.hid hr8
      have hP8 := HBp.out.grown hg8 (fun e => by have h1 := (hr8 gp e.symm).1; rw [HGp.out] at h1; cases h1)
      have hf8 : w8.frozen? ⟨gp, 2, none⟩ = false := hP8.frozen 2
      have hc8 : w8.cell? ⟨gp, 2, none⟩ = some (.slice A0 l0.length c0) := hP8.cell 2
      have hB8 := HCb.out.grown hg8 (fun e => by have h1 := (hr8 b e.symm).1; rw [HTb.out] at h1; cases h1)
      have hb16 : w8.cell? ⟨b, 16, none⟩ = some (.pointer (some ⟨gp, 0, none⟩)) := by have h := hB8.cell 16; rw [← HLl.out]; exact h
      clear hP8 hB8 hO8 hg8 hr8))
  all_goals
    obtain ⟨ow1, hc9, hf9, htg9, hb9⟩ := (show CN W0.drew ow b M L from HC0.out.drew).blocks HLs.out HLl.out HGp.out HBp.out HO8.out HG8.out HR8.out
    have HC9 := Lib.hid hc9
    have HF9 := Lib.hid (show Fr w ow _ ow1 from ((Fr.below HB0.out ow).trans (Fr.drewN _ ow 1)).trans hf9)
    have HT9 := Lib.hid htg9
    have HB9 := Lib.hid hb9
    have y16 : (w8.setCell ⟨gp, 2, none⟩ (.slice A8 (l0.length + n) c8)).cell? ⟨b, 16, none⟩ = some (.pointer (some ⟨gp, 0, none⟩)) := by have h := hc9.blk.cell 16; rw [← HLl.out]; exact h
    have y2 : (w8.setCell ⟨gp, 2, none⟩ (.slice A8 (l0.length + n) c8)).cell? ⟨gp, 2, none⟩ = some (.slice A8 (l0.length + n) c8) := hb9.cell 2
    have yf := hc9.blk.frozen 16
    have yx : (w8.setCell ⟨gp, 2, none⟩ (.slice A8 (l0.length + n) c8)).cell? ⟨w.heap.size, 4, none⟩ = some (.bool i.endHeads) := by
      have hno : ow w.heap.size = .no := HC.out.new _ (Nat.le_refl _)
      have h1 := ((hf9.blk HX0.out hno)).cell 4
      exact h1
    clear hc9 hf9 htg9 hb9 hf8 hc8 hb16
    generalize w8.setCell ⟨gp, 2, none⟩ (.slice A8 (l0.length + n) c8) = W9 at *
    have hle : (16384 : Int) < ((l0.length + n : Nat) : Int) := by omega
    go_wp2_with fail
    refine (give_any 11 0 _).mono ?_
    rintro e w10 ⟨rfl, hw⟩
    subst w10
    go_wp2
    exact ⟨rfl, _, ow1, L, rfl, rfl, HC9.out, HF9.out⟩
set_option maxHeartbeats 1000000 in
set_option maxRecDepth 100000 in
/-- CONTINUATION's function takes a piece. -/
theorem works2_any (w : World) (ow : Nat → Tg) (b g : Nat) (M : Cv) (L : Lay) (Q : Ending → World → Prop) (i : Inf) (sv dv sz : Value) (h : CN w ow b M L) (hg : Blk w g 24 #[.pointer (some ⟨b, 0, none⟩)])
    (hret : ∀ e w', Q e w' → e = .returned (.tuple #[]) ∨ ∃ cs, e = .panicked cs)
    (hp : ∀ W, CN W ow b M L → Fr w ow W ow → Calls Tryz.prog 135 #[.pointer (some ⟨b, 0, none⟩), .agg (infC i sv dv)] W Q) :
    Calls Tryz.prog 136 #[.agg (infC i sv dv), sz, .pointer (some ⟨g, 0, none⟩)] w Q := by
  have HX := Lib.hid (Blk.new w 82 (infC i sv dv))
  have hb0 := (Below.refl w.heap.size w).alloc (Nat.le_refl _) (.cells (infC i sv dv) 82)
  have HC0 := Lib.hid (h.below hb0)
  have HF0 := Lib.hid (Fr.below hb0 ow)
  have HG0 := Lib.hid (hg.below hb0 hg.lt)
  have HP := Lib.hid hp
  have HR := Lib.hid hret
  have HZ0 := Lib.hid (show (Tryz.prog.info? 82).map (·.size) = some (infC i sv dv).size from infSize)
  clear h hg hp hret hb0
  go_enter Tryz.func136, Tryz.ntmps136
  go_upto_region 1 with fail
  generalize w.alloc (.cells (infC i sv dv) 82) = W0 at *
  have g0 : W0.cell? ⟨g, 0, none⟩ = some (.pointer (some ⟨b, 0, none⟩)) := HG0.out.cell 0
  go_wp2_with (first
    | (refine wpList_rowGet _ rfl (.tmp 3) 82 rfl w.heap.size 82 _ rfl HX.out _ Tryz.underlying82 rfl HZ0.out ?_)
    | fail)
  refine (HP.out W0 HC0.out HF0.out).mono ?_
  intro e w2 hq
  rcases HR.out e w2 hq with rfl | ⟨cs, rfl⟩
  · have HQ := Lib.hid hq
    clear hq
    go_wp2
    go_end0
    exact HQ.out
  · have HQ := Lib.hid hq
    clear hq
    go_wp2
    exact ⟨rfl, HQ.out⟩
end Go.Proofs.YtdkfbkjmhgbppaaGreatDoor
end

section
namespace Go.Proofs.YtdkfbkjmhgbppaaGreatDoor
open Go.RowKit Go.Own Go.Own.Im Go.Own.Cx Go.Own.Fr
attribute [local go_sem] Oper.semAt_some
set_option maxHeartbeats 8000000 in
set_option maxRecDepth 100000 in
theorem takes_more (w : World) (ow : Nat → Tg) (b : Nat) (M : Cv) (L : Lay) (fin : Bool) (l0 : List UInt8) (Q : Ending → World → Prop) (t f s K : Nat) (fst : Array Value) (cap : Nat → Array Value) (A : Option Addr) (n c : Nat) (l : List UInt8) (j : Inf)
    (h : CN w ow b M L) (hr : Rd w w.heap.size A n l) (hno : 0 < n → ∀ ad, A = some ad → ow ad.block = .no) (hc : n ≤ c) (hn : n ≤ 16384) (ht : t ≤ 255) (hf : f ≤ 255) (hs : s ≤ 2147483647) (hp : hasF t f 8 = false) (hk : t ≠ 2 ∧ t ≠ 5 ∧ (t = 1 → hasF t f 32 = false)) (hl : M.list = some (s, fin, l0)) (h9 : t = 9)
    (hgr : M.greeted = true) (ho : opn t f s l = .ok j) (hfn : ∀ g, wkF g b (t : Int) = some (.func (.func K) fst (cap g))) (hE : Enters Tryz.prog K)
    (hret : ∀ e w', Q e w' → e = .returned (.tuple #[]) ∨ ∃ cs, e = .panicked cs)
    (hw : ∀ W g sv dv, CN W ow b { M with greeted := true } L → Fr w ow W ow → Blk W g 24 #[.pointer (some ⟨b, 0, none⟩)] → w.heap.size ≤ g → SetO W w.heap.size sv j.sets → Ow W w.heap.size 5 dv j.data.length j.data →
      Calls Tryz.prog K (fst ++ (#[.agg (infC j sv dv), .int .i64 (n : Nat)] ++ cap g)) W Q) :
    Calls Tryz.prog 69 #[.pointer (some ⟨b, 0, none⟩), .agg #[.int .i64 (t : Nat), .int .i64 (f : Nat), .int .i64 (s : Nat), .slice A n c]] w Q := by
  have hta := assert_nil
  have hE : ∀ args w, (callFunc K args).run Tryz.prog w = .ok (.enter K args) w := hE
  have HX := Lib.hid (Blk.new w 86 #[.int .i64 (t : Nat), .int .i64 (f : Nat), .int .i64 (s : Nat), .slice A n c])
  have HB0 := Lib.hid ((Below.refl w.heap.size w).alloc (Nat.le_refl _) (.cells #[.int .i64 (t : Nat), .int .i64 (f : Nat), .int .i64 (s : Nat), .slice A n c] 86))
  have HC := Lib.hid h
  have HR := Lib.hid hr
  have HNo := Lib.hid hno
  have HW := Lib.hid hw
  have HRet := Lib.hid hret
  have HFn := Lib.hid hfn
  have HO := Lib.hid ho
  have HH := Lib.hid (show _ ∧ _ ∧ _ ∧ _ ∧ _ ∧ _ ∧ _ from ⟨hc, hn, ht, hf, hs, hp, hk⟩)
  have e1 : bits .and .i64 (f : Int) 1 = ((f &&& 1 : Nat) : Int) := and_nat f 1 (by omega) (by omega)
  obtain ⟨q, hq⟩ : ∃ q, f &&& 1 = q := ⟨_, rfl⟩
  rw [hq] at e1
  have h9' : ((t : Int) == 9) = true := by rw [h9]; rfl
  have hlst := h.p.lst
  rw [hl] at hlst
  obtain ⟨gp, bv, hLl, htg, hbp, _⟩ := hlst
  have HL := Lib.hid hLl
  have HBp := Lib.hid hbp
  have HTg := Lib.hid htg
  have HGr := Lib.hid hgr
  have HQ := Lib.hid hq
  clear h hr hno hw hret hfn ho hc hn ht hf hs hp hk hl h9 hgr hq hLl htg hbp
  go_enter Tryz.func69, Tryz.ntmps69
  go_upto_region 1 with fail
  generalize w.alloc (.cells #[.int .i64 (t : Nat), .int .i64 (f : Nat), .int .i64 (s : Nat), .slice A n c] 86) = W0 at *
  have HC0 := Lib.hid (HC.out.below HB0.out)
  have x0 : W0.cell? ⟨w.heap.size, 0, none⟩ = some (.int .i64 (t : Nat)) := HX.out.cell 0
  have x1 : W0.cell? ⟨w.heap.size, 1, none⟩ = some (.int .i64 (f : Nat)) := HX.out.cell 1
  have x2 : W0.cell? ⟨w.heap.size, 2, none⟩ = some (.int .i64 (s : Nat)) := HX.out.cell 2
  have c3 : W0.cell? ⟨b, 3, none⟩ = some L.fed := HC0.out.blk.cell 3
  have c4 : W0.cell? ⟨b, 4, none⟩ = some (.bool M.greeted) := HC0.out.blk.cell 4
  have f4 := HC0.out.blk.frozen 4
  rw [HGr.out] at c4
  go_upto_region 5 with fail
  all_goals
    have hgt := HC0.out.greets
    have HC1 := Lib.hid hgt.1
    have HF1 := Lib.hid ((Fr.below HB0.out ow).trans hgt.2)
    have HX1 := Lib.hid (HX.out.far (p := ⟨b, 4, none⟩) (by have := HC.out.blk.lt; show w.heap.size ≠ b; omega) (.bool true))
    have hgpb : gp ≠ b := fun e => by have h1 := HTg.out; rw [e, HC.out.tb] at h1; cases h1
    have HBp1 := Lib.hid ((HBp.out.below HB0.out HBp.out.lt).far (p := ⟨b, 4, none⟩) hgpb (.bool true))
    clear hgt x0 x1 x2 c3 c4 f4
    generalize W0.setCell ⟨b, 4, none⟩ (.bool true) = W1 at *
    have x0 : W1.cell? ⟨w.heap.size, 0, none⟩ = some (.int .i64 (t : Nat)) := HX1.out.cell 0
    have x1 : W1.cell? ⟨w.heap.size, 1, none⟩ = some (.int .i64 (f : Nat)) := HX1.out.cell 1
    have x2 : W1.cell? ⟨w.heap.size, 2, none⟩ = some (.int .i64 (s : Nat)) := HX1.out.cell 2
    have x3 : W1.cell? ⟨w.heap.size, 3, none⟩ = some (.slice A n c) := HX1.out.cell 3
    have c16 : W1.cell? ⟨b, 16, none⟩ = some L.list := HC1.out.blk.cell 16
    rw [HL.out] at c16
    have p0 : W1.cell? ⟨gp, 0, none⟩ = some (.int .i64 (s : Nat)) := HBp1.out.cell 0
    go_wp2_with fail
    go_quiet (fail)
    have HOpn := Lib.hid (fun n1 => open_more t f s A n c w.heap.size l (W1.drewN n1) (HF1.out.rd HR.out (Nat.le_refl _) HNo.out) HF1.out.size HH.out.1 (by have := HH.out.2.1; omega) HH.out.2.2.1 HH.out.2.2.2.1 HH.out.2.2.2.2.1 HH.out.2.2.2.2.2.1 HH.out.2.2.2.2.2.2)
    go_upto_region 8 with fail
    go_wp2_with fail
    refine (HOpn.out _).mono ?_
    intro e w2 hp
    obtain ⟨hb2, hm⟩ := hp
    simp only [HO.out] at hm
    obtain ⟨sv, dv, rfl, hsv, hdv⟩ := hm
    obtain ⟨A5, c5, rfl, _, _⟩ := hsv.form
    obtain ⟨A6, c6, rfl, _, _, _⟩ := hdv.form
    have HB2 := Lib.hid (show Below W1.heap.size W1 w2 from below_drewN (Below.refl W1.heap.size W1) _ |>.trans hb2)
    have HSv := Lib.hid hsv
    have HDv := Lib.hid hdv
    have HC2 := Lib.hid (HC1.out.below HB2.out)
    have HX2 := Lib.hid (HX1.out.below HB2.out HX1.out.lt)
    have HF2 := Lib.hid (HF1.out.trans (Fr.below HB2.out ow))
    clear hb2 hsv hdv x0 x1 x2 x3 c16 p0
    go_upto_region 12 with (first
      | (refine wpList_rowPut _ rfl (.tmp 6) (.tmp 72) 82 rfl w2.heap.size 82 (infC {} (.slice none 0 0) (.slice none 0 0)) _ rfl rfl (Blk.new w2 82 _) infSize rfl (infC_one _ _ _ _ _ _ _) ?_
         intro W3 hb3 hg3
         have HI3 := Lib.hid hb3
         have HB3 := Lib.hid (((Below.refl w2.heap.size w2).alloc (Nat.le_refl _) (.cells (infC {} (.slice none 0 0) (.slice none 0 0)) 82)).grown hg3 (by simp) (fun g e => by injection e with e; omega))
         clear hb3 hg3)
      | fail)
    have HB13 := Lib.hid (HB2.out.trans (HB3.out.mono HB2.out.size))
    have HC3 := Lib.hid (HC2.out.below HB3.out)
    have HX3 := Lib.hid (HX1.out.below HB13.out HX1.out.lt)
    have HF3 := Lib.hid (HF2.out.trans (Fr.below HB3.out ow))
    have HS0 := Lib.hid (show W3.cell? ⟨w.heap.size, 0, none⟩ = some (.int .i64 (t : Nat)) from HX3.out.cell 0)
    have HS0d := Lib.hid (show W3.drew.cell? ⟨w.heap.size, 0, none⟩ = some (.int .i64 (t : Nat)) from HX3.out.cell 0)
    have HWk := Lib.hid (fun W => works_any b W)
    go_region_held3 (fun W' => W'.cell? ⟨w.heap.size, 0, none⟩ = some (.int .i64 (t : Nat))) (first | with_reducible exact HS0.out | with_reducible exact HS0d.out | with_reducible exact HS4.out | with_reducible exact HS4d.out) (first
      | (go_at_call 107
         with_reducible refine Calls.mono (HWk.out _) ?_
         rintro e w4 ⟨rfl, hbk4, hm4, hb4⟩
         have hb4 : Below W3.heap.size W3 w4 := below_of_drew hb4
         have HB4 := Lib.hid hb4
         have HK4 := Lib.hid (show Blk w4 W3.heap.size 24 #[.pointer (some ⟨b, 0, none⟩)] from hbk4)
         have hlk4 : (Instr.lookup 180 (.map (some (W3.heap.size + 1))) (.int .i64 (t : Int)) false).run Tryz.prog w4 = .ok (.func (.func K) fst (cap W3.heap.size)) w4 := look_wk (t := t) hm4 HH.out.2.2.1 (HFn.out _)
         have hlk4d : (Instr.lookup 180 (.map (some (W3.heap.size + 1))) (.int .i64 (t : Int)) false).run Tryz.prog w4.drew = .ok (.func (.func K) fst (cap W3.heap.size)) w4.drew := look_wk (t := t) (w := w4.drew) hm4 HH.out.2.2.1 (HFn.out _)
         have HS4 := Lib.hid (show w4.cell? ⟨w.heap.size, 0, none⟩ = some (.int .i64 (t : Nat)) from (HX3.out.below hb4 HX3.out.lt).cell 0)
         have HS4d := Lib.hid (show w4.drew.cell? ⟨w.heap.size, 0, none⟩ = some (.int .i64 (t : Nat)) from HS4.out)
         clear hbk4 hm4 hb4)
      | fail)
  all_goals
    have HX4 := Lib.hid (HX3.out.below HB4.out HX3.out.lt)
    have HI4 := Lib.hid (HI3.out.below HB4.out HI3.out.lt)
    have y3 : w4.cell? ⟨w.heap.size, 3, none⟩ = some (.slice A n c) := HX4.out.cell 3
    clear hlk4 hlk4d
    have hnf := neq_func (.func K) fst (cap W3.heap.size)
    go_wp2_with (first
      | (refine wpList_rowGet _ rfl (.tmp 6) 82 rfl w2.heap.size 82 _ rfl HI4.out _ Tryz.underlying82 rfl infSize ?_)
      | fail)
    have HC4 := Lib.hid (HC3.out.below HB4.out)
    have HF4 := Lib.hid (HF3.out.trans (Fr.below HB4.out ow))
    have hz1 := HF1.out.size
    have hz2 := HB2.out.size
    have hz3 := HB3.out.size
    have HB14 := Lib.hid (HB3.out.trans (HB4.out.mono hz3))
    refine (HW.out w4 W3.heap.size _ _ HC4.out HF4.out HK4.out (by omega) ?_ ?_).mono ?_
    · exact ew_base (HSv.out.below HB14.out) hz1
    · exact (HDv.out.below HB14.out (fun g hg => (HDv.out.lt hg).1)).base hz1
    intro e w5 hq
    rcases HRet.out e w5 hq with rfl | ⟨cs, rfl⟩
    · have HQ5 := Lib.hid hq
      clear hq
      go_wp2
      go_end0
      exact HQ5.out
    · have HQ5 := Lib.hid hq
      clear hq
      go_wp2
      exact ⟨rfl, HQ5.out⟩
end Go.Proofs.YtdkfbkjmhgbppaaGreatDoor
end

section
namespace Go.Proofs.YtdkfbkjmhgbppaaGreatDoor
open Go.RowKit Go.Own Go.Own.Im Go.Own.Cx Go.Own.Fr
theorem enter_works2 : Enters Tryz.prog 136 := enters_of Tryz.func136 (by kernel_rfl) rfl
theorem greet_same {M : Cv} (hg : M.greeted = true) : ({ M with greeted := true } : Cv) = M := by
  cases M
  simp only at hg
  subst hg
  rfl
/-- One piece more. -/
theorem takes_goes (M : Cv) (id : Nat) (fin : Bool) (l0 l : List UInt8) (hg : M.greeted = true) (hl : M.list = some (id, fin, l0)) (h0 : id ≠ 0) (hid : id ≤ 2147483647) (hn : l0.length + l.length ≤ 16384) :
    TakesT M 9 0 id l (fun M' => M' = { M with list := some (id, fin, l0 ++ l) }) := by
  intro w ow b L A c hE h hr hno hc
  refine takes_more w ow b M L fin l0 _ 9 0 id 136 #[] (fun g => #[.pointer (some ⟨g, 0, none⟩)]) A l.length c l { typ := 9, stream := id, data := l } h hr hno hc (by omega) (by decide) (by decide) hid rfl (by decide) hl rfl hg (opn_cont id h0 false l) (fun g => rfl) enter_works2 (fun e w' hq => .inl hq.ret) ?_
  intro W g sv dv hcW hfW hbk hge hs hd
  rw [greet_same hg] at hcW
  obtain ⟨A6, c6, rfl, hle6, _, hrd6⟩ := hd.form
  refine works2_any W ow b g M L _ { typ := 9, stream := id, data := l } sv _ _ hcW hbk (fun e w' hq => .inl hq.ret) fun W2 hc2 hf2 => ?_
  have htag6 : 0 < l.length → ∀ ad, A6 = some ad → ow ad.block = .no := fun hpos ad ha => by
    refine h.new _ ?_
    rcases hd.2 with ⟨e, h0⟩ | ⟨g, cap, cur, e, hb, _⟩
    · have h0 : l.length = 0 := h0
      omega
    · injection e with e
      rw [ha] at e
      injection e with e
      rw [e]; exact hb
  exact (piece_more W2 ow b M L id fin l0 l { typ := 9, stream := id, data := l } sv A6 l.length c6 hc2 hl rfl ((hf2.rd hrd6 (Nat.le_refl _) htag6).more hf2.size) hn).mono fun e w' hp => hp.trans (hfW.trans hf2)
/-- One piece too many. -/
theorem takes_over (M : Cv) (id : Nat) (fin : Bool) (l0 l : List UInt8) (hg : M.greeted = true) (hl : M.list = some (id, fin, l0)) (h0 : id ≠ 0) (hid : id ≤ 2147483647) (hn : 16384 < l0.length + l.length) (h1 : l0.length ≤ 16384) (h2 : l.length ≤ 16384) :
    TakesP M 9 0 id l (fun M' => M' = { M with list := some (id, fin, l0 ++ l) }) 11 0 := by
  intro w ow b L A c hE h hr hno hc
  refine takes_more w ow b M L fin l0 _ 9 0 id 136 #[] (fun g => #[.pointer (some ⟨g, 0, none⟩)]) A l.length c l { typ := 9, stream := id, data := l } h hr hno hc (by omega) (by decide) (by decide) hid rfl (by decide) hl rfl hg (opn_cont id h0 false l) (fun g => rfl) enter_works2 (fun e w' hq => .inr ⟨_, hq.ret⟩) ?_
  intro W g sv dv hcW hfW hbk hge hs hd
  rw [greet_same hg] at hcW
  obtain ⟨A6, c6, rfl, hle6, _, hrd6⟩ := hd.form
  refine works2_any W ow b g M L _ { typ := 9, stream := id, data := l } sv _ _ hcW hbk (fun e w' hq => .inr ⟨_, hq.ret⟩) fun W2 hc2 hf2 => ?_
  have htag6 : 0 < l.length → ∀ ad, A6 = some ad → ow ad.block = .no := fun hpos ad ha => by
    refine h.new _ ?_
    rcases hd.2 with ⟨e, h0⟩ | ⟨g, cap, cur, e, hb, _⟩
    · have h0 : l.length = 0 := h0
      omega
    · injection e with e
      rw [ha] at e
      injection e with e
      rw [e]; exact hb
  exact (piece_over W2 ow b M L id fin l0 l { typ := 9, stream := id, data := l } sv A6 l.length c6 hc2 hl rfl ((hf2.rd hrd6 (Nat.le_refl _) htag6).more hf2.size) ⟨hn, by omega⟩).mono fun e w' hp => hp.trans (hfW.trans hf2)
/-- The first piece, at a server. -/
theorem takes_begin (M : Cv) (id : Nat) (fin : Bool) (l : List UInt8) (hg : M.greeted = true) (hl : M.list = none) (hside : M.side = 2) (hodd : id % 2 = 1) (hid : id ≤ 2147483647) (hn : l.length ≤ 16384) :
    TakesT M 1 ((if fin then 1 else 0) ||| (if false then 4 else 0)) id l (fun M' => M' = { M with list := some (id, fin, l) }) := by
  intro w ow b L A c hE h hr hno hc
  have hid0 : id ≠ 0 := by omega
  refine takes_any w ow b M L _ 1 _ id 134 #[] (fun g => #[.pointer (some ⟨g, 0, none⟩)]) A l.length c l { typ := 1, stream := id, endd := fin, endHeads := false, data := l } h hr hno hc hn (by decide) (by cases fin <;> decide) hid (by cases fin <;> rfl) (by cases fin <;> decide) hl (by decide) (.inl hg) (opn_heads id hid0 fin false l) (fun g => rfl) enter_works1 (fun e w' hq => .inl hq.ret) ?_
  intro W g sv dv hcW hfW hbk hg' hs' hd
  rw [greet_same hg] at hcW
  obtain ⟨A6, c6, rfl, hle6, _, hrd6⟩ := hd.form
  refine (works1_any W ow b g M _ L { typ := 1, stream := id, endd := fin, endHeads := false, data := l } sv _ _ hcW hbk (h.new g hg') hside hodd ?_).mono fun e w' hp => hp.trans hfW
  intro W2 ow2 L2 hc2 hf2
  have htag6 : 0 < l.length → ∀ ad, A6 = some ad → ow ad.block = .no := fun hpos ad ha => by
    refine h.new _ ?_
    rcases hd.2 with ⟨e, h0⟩ | ⟨g, cap, cur, e, hb, _⟩
    · have h0 : l.length = 0 := h0
      omega
    · injection e with e
      rw [ha] at e
      injection e with e
      rw [e]; exact hb
  exact piece_more W2 ow2 b { M with list := some (id, fin, []) } L2 id fin [] l { typ := 1, stream := id, endd := fin, endHeads := false, data := l } sv A6 l.length c6 hc2 rfl rfl ((hf2.rd hrd6 (Nat.le_refl _) htag6).more hf2.size) (by simpa using hn)
end Go.Proofs.YtdkfbkjmhgbppaaGreatDoor
end

section
namespace Go.Proofs.YtdkfbkjmhgbppaaGreatDoor
open Go.RowKit Go.Own Go.Own.Im Go.Own.Cx Go.Own.Fr
set_option maxHeartbeats 4000000 in
set_option maxRecDepth 100000 in
/-- At a client, of a stream that was opened. -/
theorem works1c_any (w : World) (ow : Nat → Tg) (b g : Nat) (M : Cv) (S : Cv → Prop) (L : Lay) (i : Inf) (sv dv sz : Value) (h : CN w ow b M L) (hg : Blk w g 24 #[.pointer (some ⟨b, 0, none⟩)]) (hgo : ow g = .no) (hside : M.side = 1) (hk : knownB M i.stream = true)
    (hp : ∀ W ow' L', CN W ow' b { M with list := some (i.stream, i.endd, []) } L' → Fr w ow W ow' → Calls Tryz.prog 135 #[.pointer (some ⟨b, 0, none⟩), .agg (infC i sv dv)] W (CPostS W ow' b S (.tuple #[]))) :
    Calls Tryz.prog 134 #[.agg (infC i sv dv), sz, .pointer (some ⟨g, 0, none⟩)] w (CPostS w ow b S (.tuple #[])) := by
  have HX := Lib.hid (Blk.new w 82 (infC i sv dv))
  have HB0 := Lib.hid ((Below.refl w.heap.size w).alloc (Nat.le_refl _) (.cells (infC i sv dv) 82))
  have HC := Lib.hid h
  have HG := Lib.hid hg
  have HGo := Lib.hid hgo
  have HP := Lib.hid hp
  have HS := Lib.hid hside
  have HK := Lib.hid hk
  clear h hg hgo hp hside hk
  go_enter Tryz.func134, Tryz.ntmps134
  go_upto_region 1 with fail
  generalize w.alloc (.cells (infC i sv dv) 82) = W0 at *
  have HC0 := Lib.hid (HC.out.below HB0.out)
  have HG0 := Lib.hid (HG.out.below HB0.out HG.out.lt)
  have c0 : W0.cell? ⟨b, 0, none⟩ = some (.int .i64 (M.side : Nat)) := HC0.out.blk.cell 0
  rw [HS.out] at c0
  have g0 : W0.cell? ⟨g, 0, none⟩ = some (.pointer (some ⟨b, 0, none⟩)) := HG0.out.cell 0
  have x2 : W0.cell? ⟨w.heap.size, 2, none⟩ = some (.int .i64 (i.stream : Nat)) := HX.out.cell 2
  have x3 : W0.cell? ⟨w.heap.size, 3, none⟩ = some (.bool i.endd) := HX.out.cell 3
  have HKn := Lib.hid (show Calls Tryz.prog 104 #[.pointer (some ⟨b, 0, none⟩), .int .i64 (i.stream : Nat)] W0 fun e w' => e = .returned (.bool true) ∧ w' = W0 from by
    have h1 := known_any W0 ow b M L i.stream HC0.out
    rw [show decide (i.stream % 2 = 1 ∧ i.stream ≤ M.last) = true from HK.out] at h1
    exact h1)
  go_upto_region 3 with (first
    | (go_at_call 104
       refine Calls.mono HKn.out ?_
       rintro e w1 ⟨rfl, hw⟩
       subst w1)
    | fail)
  have HN := Lib.hid (HC0.out.begins i.stream i.endd)
  have f16 : (W0.alloc (.cells #[.int .i64 (i.stream : Nat), .bool i.endd, .slice none 0 0] 174)).frozen? ⟨b, 16, none⟩ = false := (HC0.out.blk.alloc _).frozen 16
  have y16 : (W0.alloc (.cells #[.int .i64 (i.stream : Nat), .bool i.endd, .slice none 0 0] 174)).cell? ⟨b, 16, none⟩ = some L.list := (HC0.out.blk.alloc _).cell 16
  go_upto_region 4 with fail
  have HCn := Lib.hid HN.out.1
  have HFn := Lib.hid ((Fr.below HB0.out ow).trans HN.out.2)
  have hgb : g ≠ b := fun e => by have h1 := HGo.out; rw [e, HC.out.tb] at h1; cases h1
  have hwb : w.heap.size ≠ b := by have := HC.out.blk.lt; omega
  have HGn := Lib.hid ((HG0.out.alloc (.cells #[.int .i64 (i.stream : Nat), .bool i.endd, .slice none 0 0] 174)).far (p := ⟨b, 16, none⟩) hgb (.pointer (some ⟨W0.heap.size, 0, none⟩)))
  have HXn := Lib.hid ((HX.out.alloc (.cells #[.int .i64 (i.stream : Nat), .bool i.endd, .slice none 0 0] 174)).far (p := ⟨b, 16, none⟩) hwb (.pointer (some ⟨W0.heap.size, 0, none⟩)))
  clear hgb hwb f16 y16 HN c0 g0 x2 x3
  generalize (W0.alloc (.cells #[.int .i64 (i.stream : Nat), .bool i.endd, .slice none 0 0] 174)).setCell ⟨b, 16, none⟩ (.pointer (some ⟨W0.heap.size, 0, none⟩)) = W1 at *
  have g0 : W1.cell? ⟨g, 0, none⟩ = some (.pointer (some ⟨b, 0, none⟩)) := HGn.out.cell 0
  have HZ0 := Lib.hid (show (Tryz.prog.info? 82).map (·.size) = some (infC i sv dv).size from infSize)
  go_wp2_with (first
    | (refine wpList_rowGet _ rfl (.tmp 3) 82 rfl w.heap.size 82 _ rfl HXn.out _ Tryz.underlying82 rfl HZ0.out ?_)
    | fail)
  refine (HP.out W1 _ _ HCn.out HFn.out).mono ?_
  intro e w2 hp
  obtain rfl := hp.ret
  have HQ := Lib.hid hp
  clear hp
  go_wp2
  go_end0
  exact HQ.out.trans HFn.out
/-- The first piece, at a client. -/
theorem takes_beginc (M : Cv) (id : Nat) (fin : Bool) (l : List UInt8) (hg : M.greeted = true) (hl : M.list = none) (hside : M.side = 1) (hk : knownB M id = true) (hid : id ≤ 2147483647) (hn : l.length ≤ 16384) :
    TakesT M 1 ((if fin then 1 else 0) ||| (if false then 4 else 0)) id l (fun M' => M' = { M with list := some (id, fin, l) }) := by
  intro w ow b L A c hE h hr hno hc
  have hid0 : id ≠ 0 := by
    have := of_decide_eq_true hk
    omega
  refine takes_any w ow b M L _ 1 _ id 134 #[] (fun g => #[.pointer (some ⟨g, 0, none⟩)]) A l.length c l { typ := 1, stream := id, endd := fin, endHeads := false, data := l } h hr hno hc hn (by decide) (by cases fin <;> decide) hid (by cases fin <;> rfl) (by cases fin <;> decide) hl (by decide) (.inl hg) (opn_heads id hid0 fin false l) (fun g => rfl) enter_works1 (fun e w' hq => .inl hq.ret) ?_
  intro W g sv dv hcW hfW hbk hg' hs' hd
  rw [greet_same hg] at hcW
  obtain ⟨A6, c6, rfl, hle6, _, hrd6⟩ := hd.form
  refine (works1c_any W ow b g M _ L { typ := 1, stream := id, endd := fin, endHeads := false, data := l } sv _ _ hcW hbk (h.new g hg') hside hk ?_).mono fun e w' hp => hp.trans hfW
  intro W2 ow2 L2 hc2 hf2
  have htag6 : 0 < l.length → ∀ ad, A6 = some ad → ow ad.block = .no := fun hpos ad ha => by
    refine h.new _ ?_
    rcases hd.2 with ⟨e, h0⟩ | ⟨g, cap, cur, e, hb, _⟩
    · have h0 : l.length = 0 := h0
      omega
    · injection e with e
      rw [ha] at e
      injection e with e
      rw [e]; exact hb
  exact piece_more W2 ow2 b { M with list := some (id, fin, []) } L2 id fin [] l { typ := 1, stream := id, endd := fin, endHeads := false, data := l } sv A6 l.length c6 hc2 rfl rfl ((hf2.rd hrd6 (Nat.le_refl _) htag6).more hf2.size) (by simpa using hn)
end Go.Proofs.YtdkfbkjmhgbppaaGreatDoor
end

section
namespace Go.Proofs.YtdkfbkjmhgbppaaGreatDoor
open Go.RowKit Go.Own Go.Own.Im Go.Own.Cx Go.Own.Fr
/-- An empty first piece, at a server. -/
theorem runs_begin2 (M : Cv) (id : Nat) (hp : M.preface = 24) (hd : M.dead = false) (hg : M.greeted = true) (hl : M.list = none) (hside : M.side = 2) (hodd : id % 2 = 1) (hid : id ≤ 2147483647) (hf : M.fed = []) :
    Runs 1 { M with evs := [], fed := M.fed ++ frameB 1 0 id [] } (fun M' => M' = { M with evs := [], list := some (id, false, []) }) := by
  have hM : ({ ({ M with evs := [], fed := M.fed ++ frameB 1 0 id [] } : Cv) with fed := [] } : Cv) = { M with evs := [] } := by
    cases M
    simp only at hf
    subst hf
    rfl
  refine .more hd (step_takes _ (fun M' => M' = { M with evs := [], list := some (id, false, []) }) 1 0 id [] [] hp (by rw [hf, List.nil_append, List.append_nil]) (by decide) (by decide) hid (by decide) (by rw [hM]; exact takes_begin { M with evs := [] } id false [] hg hl hside hodd hid (Nat.zero_le _))) fun M1 h1 => ?_
  subst h1
  exact .stop hd ((step_few { M with evs := [], list := some (id, false, []) } hp (by show M.fed.length < 9; rw [hf]; decide)).mono fun M' h' => h')
/-- An empty first piece, at a client whose stream is there. -/
theorem runs_begin1 (M : Cv) (id : Nat) (hp : M.preface = 24) (hd : M.dead = false) (hg : M.greeted = true) (hl : M.list = none) (hside : M.side = 1) (hk : knownB M id = true) (hid : id ≤ 2147483647) (hf : M.fed = []) :
    Runs 1 { M with evs := [], fed := M.fed ++ frameB 1 0 id [] } (fun M' => M' = { M with evs := [], list := some (id, false, []) }) := by
  have hM : ({ ({ M with evs := [], fed := M.fed ++ frameB 1 0 id [] } : Cv) with fed := [] } : Cv) = { M with evs := [] } := by
    cases M
    simp only at hf
    subst hf
    rfl
  refine .more hd (step_takes _ (fun M' => M' = { M with evs := [], list := some (id, false, []) }) 1 0 id [] [] hp (by rw [hf, List.nil_append, List.append_nil]) (by decide) (by decide) hid (by decide) (by rw [hM]; exact takes_beginc { M with evs := [] } id false [] hg hl hside hk hid (Nat.zero_le _))) fun M1 h1 => ?_
  subst h1
  exact .stop hd ((step_few { M with evs := [], list := some (id, false, []) } hp (by show M.fed.length < 9; rw [hf]; decide)).mono fun M' h' => h')
/-- A piece more. -/
theorem runs_goes (M : Cv) (id : Nat) (l0 l : List UInt8) (hp : M.preface = 24) (hd : M.dead = false) (hg : M.greeted = true) (hl : M.list = some (id, false, l0)) (h0 : id ≠ 0) (hid : id ≤ 2147483647) (hf : M.fed = []) (hn : l0.length + l.length ≤ 16384) :
    Runs 1 { M with evs := [], fed := M.fed ++ frameB 9 0 id l } (fun M' => M' = { M with evs := [], list := some (id, false, l0 ++ l) }) := by
  have hM : ({ ({ M with evs := [], fed := M.fed ++ frameB 9 0 id l } : Cv) with fed := [] } : Cv) = { M with evs := [] } := by
    cases M
    simp only at hf
    subst hf
    rfl
  refine .more hd (step_takes _ (fun M' => M' = { M with evs := [], list := some (id, false, l0 ++ l) }) 9 0 id l [] hp (by rw [hf, List.nil_append, List.append_nil]) (by decide) (by decide) hid (by omega) (by rw [hM]; exact takes_goes { M with evs := [] } id false l0 l hg hl h0 hid hn)) fun M1 h1 => ?_
  subst h1
  exact .stop hd ((step_few { M with evs := [], list := some (id, false, l0 ++ l) } hp (by show M.fed.length < 9; rw [hf]; decide)).mono fun M' h' => h')
/-- A piece too many. -/
theorem runs_over (M : Cv) (id : Nat) (l0 l : List UInt8) (hp : M.preface = 24) (hd : M.dead = false) (hg : M.greeted = true) (hl : M.list = some (id, false, l0)) (h0 : id ≠ 0) (hid : id ≤ 2147483647) (hf : M.fed = []) (hn : 16384 < l0.length + l.length) (h1 : l0.length ≤ 16384) (h2 : l.length ≤ 16384)
    (hla : M.last ≤ 2147483647) (ho : M.out.length ≤ 1000000000) :
    Runs 1 { M with evs := [], fed := M.fed ++ frameB 9 0 id l } (fun M' => M' = deadM { M with evs := [] } 11) := by
  have hM : ({ ({ M with evs := [], fed := M.fed ++ frameB 9 0 id l } : Cv) with fed := [] } : Cv) = { M with evs := [] } := by
    cases M
    simp only at hf
    subst hf
    rfl
  refine .more hd (step_panics _ (fun M' => M' = { M with evs := [], list := some (id, false, l0 ++ l) }) (fun M' => M' = deadM { M with evs := [] } 11) 9 0 id 11 0 l [] hp (by rw [hf, List.nil_append, List.append_nil]) (by decide) (by decide) hid h2 (by rw [hM]; exact takes_over { M with evs := [] } id false l0 l hg hl h0 hid hn h1 h2) (fun M1 e1 => ?_)) fun M1 e1 => ?_
  · subst e1
    exact fault_dead { M with evs := [], list := some (id, false, l0 ++ l) } 11 (by decide) hla ho (Nat.zero_le _)
  · subst e1
    exact .dead rfl rfl
end Go.Proofs.YtdkfbkjmhgbppaaGreatDoor
end
