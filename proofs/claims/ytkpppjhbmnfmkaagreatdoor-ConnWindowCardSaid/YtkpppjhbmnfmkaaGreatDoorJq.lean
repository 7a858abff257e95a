/-
  Contract: (*Conn).piece: the last piece of a list that opens a stream.
  Contract: what HEADERS does to a server: the pieces of a new list.
-/
import Derived.Test.YtkpppjhbmnfmkaaGreatDoorJj
import Derived.Test.YtkpppjhbmnfmkaaGreatDoorJk
import Derived.Test.YtkpppjhbmnfmkaaGreatDoorJp
import Derived.Deep.RegionLaw
import Derived.Deep.RegionHeld3
import Derived.Deep.DrawnRows
import Derived.BigQuiet
set_option linter.unusedSimpArgs false
set_option linter.unusedVariables false
section
namespace Go.Proofs.YtkpppjhbmnfmkaaGreatDoor
open Go.RowKit Go.Own Go.Own.Im Go.Own.Cx Go.Own.Fr
attribute [local go_sem] Oper.semAt_some
set_option maxHeartbeats 8000000 in
set_option maxRecDepth 100000 in
theorem piece_any (w : World) (ow : Nat → Tg) (b : Nat) (M : Cv) (S : Cv → Prop) (L : Lay) (id : Nat) (fin : Bool) (l0 l1 : List UInt8) (i : Inf) (sv : Value) (A : Option Addr) (n c : Nat) (hs : List Hd.HdrV) (m : Int) (h : CN w ow b M L) (hL : M.list = some (id, fin, l0)) (he : i.endHeads = true) (hr : Rd w w.heap.size A n l1) (hc : n ≤ c) (hn : l0.length + n ≤ 100)
    (hix : Ix (l0 ++ l1) hs) (hside : M.side = 2) (hk : knownB M id = false) (hnew : strAt M (id : Int) = none) (hid : id ≤ 2147483647) (hm : w.cell? ⟨13, 0, none⟩ = some (.int .i64 m)) (hmo : ow 13 = .no)
    (hop : ∀ W ow' L' A c, CN W ow' b { M with list := none } L' → Fr w ow W ow' → hs.length ≤ c → Cm.RS hdrC 3 W W.heap.size A hs.length hs → (0 < hs.length → ∀ ad, A = some ad → ow' ad.block = .evd) → Calls Tryz.prog 196 #[.pointer (some ⟨b, 0, none⟩), .int .i64 (id : Nat), .slice A hs.length c, .bool fin] W (CPostS W ow' b S (.tuple #[]))) :
    Calls Tryz.prog 150 #[.pointer (some ⟨b, 0, none⟩), .agg (infC i sv (.slice A n c))] w (CPostS w ow b S (.tuple #[])) := by
  have HX := Lib.hid (Blk.new w 91 (infC i sv (.slice A n c)))
  have HB0 := Lib.hid ((Below.refl w.heap.size w).alloc (Nat.le_refl _) (.cells (infC i sv (.slice A n c)) 91))
  have HC := Lib.hid h
  have HR := Lib.hid hr
  have HOp := Lib.hid hop
  have HH := Lib.hid (show _ ∧ _ ∧ _ ∧ _ ∧ _ ∧ _ ∧ _ from ⟨hix, hside, hk, hnew, hid, hm, hmo⟩)
  have HLs := Lib.hid hL
  have HE := Lib.hid he
  clear h hr hop hix hside hk hnew hid hm hmo hL he
  go_enter Tryz.func150, Tryz.ntmps150
  go_upto_region 1 with fail
  generalize w.alloc (.cells (infC i sv (.slice A n c)) 91) = W0 at *
  have HC0 := Lib.hid (HC.out.below HB0.out)
  have hlst := HC0.out.p.lst
  rw [HLs.out] at hlst
  obtain ⟨gp, bv, hLl, htg, hbp, hoz⟩ := hlst
  obtain ⟨A0, c0, rfl, _, _⟩ := hoz.form
  have c16 : W0.cell? ⟨b, 16, none⟩ = some L.list := HC0.out.blk.cell 16
  rw [hLl] at c16
  have p2 : W0.cell? ⟨gp, 2, none⟩ = some (.slice A0 l0.length c0) := hbp.cell 2
  have x17 : W0.cell? ⟨w.heap.size, 17, none⟩ = some (.slice A n c) := HX.out.cell 17
  have x4 : W0.cell? ⟨w.heap.size, 4, none⟩ = some (.bool i.endHeads) := HX.out.cell 4
  rw [HE.out] at x4
  have HOz := Lib.hid (show Oz W0.drew (fun g => ow g = .blk) (.slice A0 l0.length c0) l0 from hoz.drew)
  have HR1 := Lib.hid (show Rd W0.drew w.heap.size A n l1 from (HR.out.below HB0.out).drew)
  have HGp := Lib.hid htg
  have HBp := Lib.hid (show Blk W0.drew gp 195 #[.int .i64 (id : Nat), .bool fin, .slice A0 l0.length c0] from hbp)
  have HLl := Lib.hid hLl
  have HLn := Lib.hid (show l0.length + n ≤ 140737488355328 by omega)
  have HX0 := Lib.hid (show Blk W0.drew w.heap.size 91 (infC i sv (.slice A n c)) from HX.out)
  have HCb := Lib.hid (show Blk W0.drew b 80 (cnC M L) from HC0.out.blk)
  have HTb := Lib.hid HC0.out.tb
  clear hoz htg hbp hLl
  go_region_law
    ((refine step_app_z byteP _ (by rfl) (.tmp 18) (.tmp 20) (by rfl) (fun g => ow g = .blk) (.slice A0 l0.length c0) l0 (by rfl) HOz.out w.heap.size A n c l1 (by rfl) HR1.out HLn.out ?_
      intro A8 c8 w8 row8 hO8 hg8 hr8
      have HO8 := Lib.hid hO8
      have HG8 := Lib.hid hg8
      have HR8 := Lib.hid hr8
      have hP8 := HBp.out.grown hg8 (fun e => by have h1 := (hr8 gp e.symm).1; rw [HGp.out] at h1; cases h1)
      have hf8 : w8.frozen? ⟨gp, 2, none⟩ = false := hP8.frozen 2
      have hc8 : w8.cell? ⟨gp, 2, none⟩ = some (.slice A0 l0.length c0) := hP8.cell 2
      have hB8 := HCb.out.grown hg8 (fun e => by have h1 := (hr8 b e.symm).1; rw [HTb.out] at h1; cases h1)
      have hb16 : w8.cell? ⟨b, 16, none⟩ = some (.pointer (some ⟨gp, 0, none⟩)) := by have h := hB8.cell 16; rw [← HLl.out]; exact h
      clear hP8 hB8 hO8 hg8 hr8))
  all_goals
    obtain ⟨ow1, hc9, hf9, htg9, hb9⟩ := (show CN W0.drew ow b M L from HC0.out.drew).blocks HLs.out HLl.out HGp.out HBp.out HO8.out HG8.out HR8.out
    have HC9 := Lib.hid hc9
    have HF9 := Lib.hid (show Fr w ow _ ow1 from ((Fr.below HB0.out ow).trans (Fr.drewN _ ow 1)).trans hf9)
    have HT9 := Lib.hid htg9
    have HB9 := Lib.hid hb9
    have y16 : (w8.setCell ⟨gp, 2, none⟩ (.slice A8 (l0.length + n) c8)).cell? ⟨b, 16, none⟩ = some (.pointer (some ⟨gp, 0, none⟩)) := by have h := hc9.blk.cell 16; rw [← HLl.out]; exact h
    have y2 : (w8.setCell ⟨gp, 2, none⟩ (.slice A8 (l0.length + n) c8)).cell? ⟨gp, 2, none⟩ = some (.slice A8 (l0.length + n) c8) := hb9.cell 2
    have yf := hc9.blk.frozen 16
    have yx : (w8.setCell ⟨gp, 2, none⟩ (.slice A8 (l0.length + n) c8)).cell? ⟨w.heap.size, 4, none⟩ = some (.bool true) := by
      have hno : ow w.heap.size = .no := HC.out.new _ (Nat.le_refl _)
      have h1 := ((hf9.blk HX0.out hno)).cell 4
      rw [← HE.out]; exact h1
    clear hc9 hf9 htg9 hb9 hf8 hc8 hb16
    generalize w8.setCell ⟨gp, 2, none⟩ (.slice A8 (l0.length + n) c8) = W9 at *
    go_wp2_with fail
    have hu := HC9.out.unlists
    have HF10 := Lib.hid (HF9.out.trans hu.2)
    have hm10 : (W9.setCell ⟨b, 16, none⟩ (.pointer none)).cell? ⟨13, 0, none⟩ = some (.int .i64 m) :=
      (World.cell?_of_block (HF10.out.keep _ (World.block_lt_of_cell? w _ HH.out.2.2.2.2.2.1) HH.out.2.2.2.2.2.2)).trans HH.out.2.2.2.2.2.1
    obtain ⟨g', bv', e1, _, b1, z1⟩ := HC9.out.p.lst
    obtain rfl : gp = g' := by
      have h1 := HLl.out.symm.trans e1
      injection h1 with h1; injection h1 with h1; injection h1
    obtain rfl : Value.slice A8 (l0.length + n) c8 = bv' := by
      have h1 := (HB9.out.cell 2).symm.trans (b1.cell 2)
      simpa using h1
    have hcc : l0.length + n ≤ c8 := by
      obtain ⟨_, _, e3, h3, _⟩ := z1.form
      injection e3 with _ e4 e5
      omega
    have hrd := (z1.grown (grown_setCell (World.grownBy.refl W9 (some b)) 16 (.pointer none)) (fun g e ho => by injection e with e; rw [← e, HC9.out.tb] at ho; cases ho)).rd
    obtain ⟨tb, E10, most, hdb, _, _⟩ := hu.1.p.dec
    have HDc := Lib.hid (decode_any (W9.setCell ⟨b, 16, none⟩ (.pointer none)).drew L.dec tb (.int .i64 4096) A8 (l0.length + n) c8 _ (l0 ++ l1) hs m hdb hrd.drew (Nat.le_refl _) hcc hn HH.out.1 hm10)
    have HC10 := Lib.hid hu.1
    have HBg := Lib.hid (HB9.out.far (p := ⟨b, 16, none⟩) (fun e => by have h1 := HT9.out; simp only at e; rw [e, HC9.out.tb] at h1; cases h1) (.pointer none))
    have HS0 := Lib.hid (show (W9.setCell ⟨b, 16, none⟩ (.pointer none)).cell? ⟨b, 22, none⟩ = some (.pointer (some ⟨L.dec, 0, none⟩)) ∧ (W9.setCell ⟨b, 16, none⟩ (.pointer none)).cell? ⟨gp, 2, none⟩ = some (.slice A8 (l0.length + n) c8) from ⟨hu.1.blk.cell 22, HBg.out.cell 2⟩)
    have HS0d := Lib.hid (show (W9.setCell ⟨b, 16, none⟩ (.pointer none)).drew.cell? ⟨b, 22, none⟩ = some (.pointer (some ⟨L.dec, 0, none⟩)) ∧ (W9.setCell ⟨b, 16, none⟩ (.pointer none)).drew.cell? ⟨gp, 2, none⟩ = some (.slice A8 (l0.length + n) c8) from HS0.out)
    clear hu hm10 b1 z1 hcc hrd hdb e1 y16 y2 yf yx
    generalize W9.setCell ⟨b, 16, none⟩ (.pointer none) = W10 at *
    go_region_held3 (fun W' => W'.cell? ⟨b, 22, none⟩ = some (.pointer (some ⟨L.dec, 0, none⟩)) ∧ W'.cell? ⟨gp, 2, none⟩ = some (.slice A8 (l0.length + n) c8)) (first | with_reducible exact HS0.out | with_reducible exact HS0d.out | with_reducible exact HS1.out | with_reducible exact HS1d.out) (first
      | (go_at_call 194
         with_reducible refine Calls.mono HDc.out ?_
         rintro e w11 ⟨A11, c11, rfl, hl11, hrs11, hnw11, hb11⟩
         have hb11 : Below W10.heap.size W10 w11 := below_of_drew hb11
         have HB11 := Lib.hid hb11
         have HL11 := Lib.hid hl11
         have HR11 := Lib.hid hrs11
         have HN11 := Lib.hid hnw11
         have HC11 := Lib.hid (HC10.out.below hb11)
         have HG11 := Lib.hid (HBg.out.below hb11 HBg.out.lt)
         have HS1 := Lib.hid (show w11.cell? ⟨b, 22, none⟩ = some (.pointer (some ⟨L.dec, 0, none⟩)) ∧ w11.cell? ⟨gp, 2, none⟩ = some (.slice A8 (l0.length + n) c8) from ⟨HC11.out.blk.cell 22, HG11.out.cell 2⟩)
         have HS1d := Lib.hid (show w11.drew.cell? ⟨b, 22, none⟩ = some (.pointer (some ⟨L.dec, 0, none⟩)) ∧ w11.drew.cell? ⟨gp, 2, none⟩ = some (.slice A8 (l0.length + n) c8) from HS1.out)
         clear hb11 hl11 hrs11 hnw11)
      | fail)
  all_goals
    have ht12 : ∃ ow12, CN w11 ow12 b { M with list := none } { L with list := .pointer none } ∧ Fr w ow w11 ow12 ∧ (0 < hs.length → ∀ ad, A11 = some ad → ow12 ad.block = .evd) ∧ ow12 gp = .no := by
      have hoff : offT ow1 gp = .no := if_pos (.inl HT9.out)
      rcases Nat.eq_zero_or_pos hs.length with h0 | h0
      · exact ⟨offT ow1, HC11.out, HF10.out.trans (Fr.below HB11.out _), fun h => absurd h (by omega), hoff⟩
      · obtain ⟨ad, ha, hlt, _⟩ := HR11.out.2 0 _ (List.getElem?_eq_getElem h0)
        have hge : W10.heap.size ≤ ad.block := HN11.out h0 ad ha
        exact ⟨_, HC11.out.tag (HC10.out.new _ hge) hlt .evd, HF10.out.trans (Fr.belowTag HB11.out _ hge .evd), fun _ ad2 h2 => by rw [ha] at h2; injection h2 with h2; subst h2; exact upd_same _ _ _, by rw [upd_other _ _ (by have := HBg.out.lt; omega)]; exact hoff⟩
    obtain ⟨ow12, hc12, hf12, htag, hno12⟩ := ht12
    have HNo := Lib.hid hno12
    have HC12 := Lib.hid hc12
    have HF12 := Lib.hid hf12
    have HTg := Lib.hid htag
    have hwf : (Lit.int .i64 (id : Int)).wf = true := by have := HH.out.2.2.2.2.1; simp [Lit.wf, IntKind.min, IntKind.max, IntKind.bits, IntKind.signed]; omega
    have hlk := fun n => look_str (hc12.drewN n) (id : Int) hwf
    rw [at_none (show strAt { M with list := none } (id : Int) = none from HH.out.2.2.2.1)] at hlk
    have c15 : w11.cell? ⟨b, 15, none⟩ = some (.map (some L.mb)) := hc12.blk.cell 15
    have c0' : w11.cell? ⟨b, 0, none⟩ = some (.int .i64 (M.side : Nat)) := hc12.blk.cell 0
    rw [HH.out.2.1] at c0'
    have q0 : w11.cell? ⟨gp, 0, none⟩ = some (.int .i64 (id : Nat)) := HG11.out.cell 0
    have q1 : w11.cell? ⟨gp, 1, none⟩ = some (.bool fin) := HG11.out.cell 1
    have HKn := Lib.hid (fun n => (show Calls Tryz.prog 111 #[.pointer (some ⟨b, 0, none⟩), .int .i64 (id : Nat)] (w11.drewN n) fun e w' => e = .returned (.bool false) ∧ w' = w11.drewN n from by
      have h1 := known_any (w11.drewN n) ow12 b _ _ id (hc12.drewN n)
      rw [show decide (id % 2 = 1 ∧ id ≤ ({ M with list := none } : Cv).last) = false from HH.out.2.2.1] at h1
      exact h1))
    have HO14 := Lib.hid (fun n => HOp.out (w11.drewN n).drew ow12 _ A11 c11 (hc12.drewN n).drew (hf12.trans (Fr.drewN _ _ n)).drew HL11.out (HR11.out.keep (Nat.le_refl _) fun _ _ _ _ => rfl) htag)
    have HU0 := Lib.hid (fun n => (show (w11.drewN n).cell? ⟨gp, 0, none⟩ = some (.int .i64 (id : Nat)) ∧ (w11.drewN n).cell? ⟨gp, 1, none⟩ = some (.bool fin) from ⟨q0, q1⟩))
    have HU1 := Lib.hid (fun n => (show (w11.drewN n).drew.cell? ⟨gp, 0, none⟩ = some (.int .i64 (id : Nat)) ∧ (w11.drewN n).drew.cell? ⟨gp, 1, none⟩ = some (.bool fin) from ⟨q0, q1⟩))
    have HU2 := Lib.hid (fun n w13 ow' (hf : Fr (w11.drewN n).drew ow12 w13 ow') => (show w13.cell? ⟨gp, 0, none⟩ = some (.int .i64 (id : Nat)) ∧ w13.cell? ⟨gp, 1, none⟩ = some (.bool fin) from
      ⟨(World.cell?_of_block (a := ⟨gp, 0, none⟩) (hf.keep gp HG11.out.lt hno12)).trans q0, (World.cell?_of_block (a := ⟨gp, 1, none⟩) (hf.keep gp HG11.out.lt hno12)).trans q1⟩))
    clear hc12 hf12 htag hwf hno12
    go_wp2_with fail
    go_quiet (fail)
    go_wp2_with (first
      | (go_at_call 111
         refine Calls.mono (HKn.out _) ?_
         rintro e w12 ⟨rfl, hw⟩
         subst w12)
      | fail)
    go_region_held3 (fun W' => W'.cell? ⟨gp, 0, none⟩ = some (.int .i64 (id : Nat)) ∧ W'.cell? ⟨gp, 1, none⟩ = some (.bool fin)) (first | with_reducible exact HU0.out _ | with_reducible exact HU1.out _ | with_reducible exact HS13.out) (first
      | (go_at_call 196
         refine (HO14.out _).mono ?_
         intro e w13 hp
         obtain rfl := hp.ret
         have HQ := Lib.hid hp
         have HS13 := Lib.hid (show w13.cell? ⟨gp, 0, none⟩ = some (.int .i64 (id : Nat)) ∧ w13.cell? ⟨gp, 1, none⟩ = some (.bool fin) from by
           obtain ⟨_, ow', _, _, _, hf⟩ := hp.out
           exact HU2.out _ w13 ow' hf)
         clear hp)
      | fail)
  all_goals
    go_wp2
    go_end0
    exact HQ.out.trans ((HF12.out.trans (Fr.drewN _ ow12 _)).drew)
end Go.Proofs.YtkpppjhbmnfmkaaGreatDoor
end

section
namespace Go.Proofs.YtkpppjhbmnfmkaaGreatDoor
open Go.RowKit Go.Own Go.Own.Im Go.Own.Cx Go.Own.Fr
/-- A new list begins. -/
theorem CN.begins {w : World} {ow : Nat → Tg} {b : Nat} {M : Cv} {L : Lay} (h : CN w ow b M L) (id : Nat) (fin : Bool) :
    CN ((w.alloc (.cells #[.int .i64 (id : Nat), .bool fin, .slice none 0 0] 195)).setCell ⟨b, 16, none⟩ (.pointer (some ⟨w.heap.size, 0, none⟩))) (upd ow w.heap.size .lst) b { M with list := some (id, fin, []) } { L with list := .pointer (some ⟨w.heap.size, 0, none⟩) } ∧
    Fr w ow ((w.alloc (.cells #[.int .i64 (id : Nat), .bool fin, .slice none 0 0] 195)).setCell ⟨b, 16, none⟩ (.pointer (some ⟨w.heap.size, 0, none⟩))) (upd ow w.heap.size .lst) := by
  have hno : ow w.heap.size = .no := h.new _ (Nat.le_refl _)
  have hb := (Below.refl w.heap.size w).alloc (Nat.le_refl _) (.cells #[.int .i64 (id : Nat), .bool fin, .slice none 0 0] 195)
  have h1 := (h.below hb).tag hno (by simp) .lst
  have h2 := h1.cell (M' := { M with list := some (id, fin, []) }) (L' := { L with list := .pointer (some ⟨w.heap.size, 0, none⟩) }) 16 (.pointer (some ⟨w.heap.size, 0, none⟩)) rfl
    ⟨h1.p.fed, h1.p.out, h1.p.ev, h1.p.inw, h1.p.ti, h1.p.outw, h1.p.to, h1.p.map, h1.p.tm, h1.p.strs, ⟨w.heap.size, .slice none 0 0, rfl, upd_same _ _ _, Blk.new w 195 _, Oz.nil _ _⟩, h1.p.enc, h1.p.dec⟩
  exact ⟨h2.1, (Fr.belowTag hb ow (Nat.le_refl _) .lst).trans h2.2⟩
set_option maxHeartbeats 4000000 in
set_option maxRecDepth 100000 in
theorem works1_any (w : World) (ow : Nat → Tg) (b g : Nat) (M : Cv) (S : Cv → Prop) (L : Lay) (i : Inf) (sv dv sz : Value) (h : CN w ow b M L) (hg : Blk w g 26 #[.pointer (some ⟨b, 0, none⟩)]) (hgo : ow g = .no) (hside : M.side = 2) (hid : i.stream % 2 = 1)
    (hp : ∀ W ow' L', CN W ow' b { M with list := some (i.stream, i.endd, []) } L' → Fr w ow W ow' → Calls Tryz.prog 150 #[.pointer (some ⟨b, 0, none⟩), .agg (infC i sv dv)] W (CPostS W ow' b S (.tuple #[]))) :
    Calls Tryz.prog 149 #[.agg (infC i sv dv), sz, .pointer (some ⟨g, 0, none⟩)] w (CPostS w ow b S (.tuple #[])) := by
  have HX := Lib.hid (Blk.new w 91 (infC i sv dv))
  have HB0 := Lib.hid ((Below.refl w.heap.size w).alloc (Nat.le_refl _) (.cells (infC i sv dv) 91))
  have HC := Lib.hid h
  have HG := Lib.hid hg
  have HGo := Lib.hid hgo
  have HP := Lib.hid hp
  have hm : ((i.stream : Int).tmod 2) = 1 := by
    have : ((i.stream : Int).tmod 2) = ((i.stream % 2 : Nat) : Int) := rfl
    rw [this, hid]; rfl
  have hm' : ((i.stream : Int) % 2) = 1 := by
    have : ((i.stream : Int) % 2) = ((i.stream % 2 : Nat) : Int) := rfl
    rw [this, hid]; rfl
  have HS := Lib.hid hside
  clear h hg hgo hp hside
  go_enter Tryz.func149, Tryz.ntmps149
  go_upto_region 1 with fail
  generalize w.alloc (.cells (infC i sv dv) 91) = W0 at *
  have HC0 := Lib.hid (HC.out.below HB0.out)
  have HG0 := Lib.hid (HG.out.below HB0.out HG.out.lt)
  have c0 : W0.cell? ⟨b, 0, none⟩ = some (.int .i64 (M.side : Nat)) := HC0.out.blk.cell 0
  rw [HS.out] at c0
  have g0 : W0.cell? ⟨g, 0, none⟩ = some (.pointer (some ⟨b, 0, none⟩)) := HG0.out.cell 0
  have x2 : W0.cell? ⟨w.heap.size, 2, none⟩ = some (.int .i64 (i.stream : Nat)) := HX.out.cell 2
  have x3 : W0.cell? ⟨w.heap.size, 3, none⟩ = some (.bool i.endd) := HX.out.cell 3
  go_upto_region 3 with fail
  have HN := Lib.hid (HC0.out.begins i.stream i.endd)
  have f16 : (W0.alloc (.cells #[.int .i64 (i.stream : Nat), .bool i.endd, .slice none 0 0] 195)).frozen? ⟨b, 16, none⟩ = false := (HC0.out.blk.alloc _).frozen 16
  have y16 : (W0.alloc (.cells #[.int .i64 (i.stream : Nat), .bool i.endd, .slice none 0 0] 195)).cell? ⟨b, 16, none⟩ = some L.list := (HC0.out.blk.alloc _).cell 16
  go_upto_region 4 with fail
  have HCn := Lib.hid HN.out.1
  have HFn := Lib.hid ((Fr.below HB0.out ow).trans HN.out.2)
  have hgb : g ≠ b := fun e => by have h1 := HGo.out; rw [e, HC.out.tb] at h1; cases h1
  have hwb : w.heap.size ≠ b := by have := HC.out.blk.lt; omega
  have HGn := Lib.hid ((HG0.out.alloc (.cells #[.int .i64 (i.stream : Nat), .bool i.endd, .slice none 0 0] 195)).far (p := ⟨b, 16, none⟩) hgb (.pointer (some ⟨W0.heap.size, 0, none⟩)))
  have HXn := Lib.hid ((HX.out.alloc (.cells #[.int .i64 (i.stream : Nat), .bool i.endd, .slice none 0 0] 195)).far (p := ⟨b, 16, none⟩) hwb (.pointer (some ⟨W0.heap.size, 0, none⟩)))
  clear hgb hwb f16 y16 HN c0 g0 x2 x3
  generalize (W0.alloc (.cells #[.int .i64 (i.stream : Nat), .bool i.endd, .slice none 0 0] 195)).setCell ⟨b, 16, none⟩ (.pointer (some ⟨W0.heap.size, 0, none⟩)) = W1 at *
  have g0 : W1.cell? ⟨g, 0, none⟩ = some (.pointer (some ⟨b, 0, none⟩)) := HGn.out.cell 0
  have HZ0 := Lib.hid (show (Tryz.prog.info? 91).map (·.size) = some (infC i sv dv).size from infSize)
  go_wp2_with (first
    | (refine wpList_rowGet _ rfl (.tmp 3) 91 rfl w.heap.size 91 _ rfl HXn.out _ Tryz.underlying91 rfl HZ0.out ?_)
    | fail)
  refine (HP.out W1 _ _ HCn.out HFn.out).mono ?_
  intro e w2 hp
  obtain rfl := hp.ret
  have HQ := Lib.hid hp
  clear hp
  go_wp2
  go_end0
  exact HQ.out.trans HFn.out
end Go.Proofs.YtkpppjhbmnfmkaaGreatDoor
end
