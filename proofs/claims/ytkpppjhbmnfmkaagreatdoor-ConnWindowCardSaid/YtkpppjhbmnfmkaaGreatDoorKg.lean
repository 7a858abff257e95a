/-
  Contract: (*Conn).settings: the other side's window is told, before a stream is.
  Contract: WINDOW of a stream; what SETTINGS with a window and WINDOW do to an end.
  Contracts: parleyref.Bytes.
  Contracts: parleyref5.number, parleyref5.Get of a whole frame.
  Contract: parleylaw8.data of whole frames.
  What Output sends of the bytes that wait: as many as both windows let. No program text is walked here.
  The states of ConnWindow. No program text is walked here.
-/
import Derived.Test.YtkpppjhbmnfmkaaGreatDoorJj
import Derived.Test.YtkpppjhbmnfmkaaGreatDoorHt
import Derived.BigQuiet
import Derived.Laws.IdiomRangeMap
import Derived.Test.YtkpppjhbmnfmkaaGreatDoorKf
import Derived.Test.YtkpppjhbmnfmkaaGreatDoorJr
import Derived.Test.YtkpppjhbmnfmkaaGreatDoorJw
import Derived.Test.YtkpppjhbmnfmkaaGreatDoorKc
import Derived.Deep.RegionHeld3
import Derived.Test.YtkpppjhbmnfmkaaGreatDoorFb
import Derived.Test.YtkpppjhbmnfmkaaGreatDoorFg
import Derived.Test.YtkpppjhbmnfmkaaGreatDoorJt
import Derived.Test.YtkpppjhbmnfmkaaGreatDoorG7
import Derived.Test.YtkpppjhbmnfmkaaGreatDoorJd
import Derived.Test.YtkpppjhbmnfmkaaGreatDoorJz
set_option linter.unusedSimpArgs false
set_option linter.unusedVariables false
section
namespace Go.Proofs.YtkpppjhbmnfmkaaGreatDoor
open Go.RowKit Go.Own Go.Own.Im Go.Own.Cx Go.Own.Fr
theorem CN.othersAre {w : World} {ow : Nat → Tg} {b : Nat} {M : Cv} {L : Lay} (h : CN w ow b M L) (v : Int) : CN (w.setCell ⟨b, 11, none⟩ (.int .i64 v)) ow b { M with others := v } L ∧ Fr w ow (w.setCell ⟨b, 11, none⟩ (.int .i64 v)) ow := h.cell 11 _ rfl h.p
theorem CN.noMap {w : World} {ow : Nat → Tg} {b : Nat} {M : Cv} {L : Lay} (h : CN w ow b M L) (hs : M.strs = []) : ∃ clock, w.heap[L.mb]? = some (.map #[] clock) := by
  have hm := h.p.map
  rw [hs] at hm
  obtain ⟨D, hown, _⟩ := hm
  obtain ⟨es, clock, hb, F, hsz, rfl⟩ := hown
  have h0 : es.size = 0 := by
    have := hsz
    simpa using this
  rw [Array.eq_empty_of_size_eq_zero h0] at hb
  exact ⟨clock, hb⟩
theorem next_none (w : World) (ty : TypeId) (bm clock : Nat) (hb : w.heap[bm]? = some (.map #[] clock)) :
    (Instr.next (.pointer (some ⟨w.heap.size, 0, none⟩)) false ty).run Tryz.prog (w.alloc (.mapIter (some bm) clock #[] clock)) = .ok (.tuple #[.bool false]) (w.alloc (.mapIter (some bm) clock #[] clock)) := by
  rcases run_next_map (P := Tryz.prog) w ty bm clock clock #[] #[] clock hb (by simp) (Nat.le_refl _) with h | ⟨e, he, _⟩
  · exact h.2
  · simp [leftOf] at he
set_option maxHeartbeats 4000000 in
set_option maxRecDepth 100000 in
theorem settings_win (w : World) (ow : Nat → Tg) (b : Nat) (M : Cv) (L : Lay) (v : Nat) (S : Option Addr) (d : Nat) (dv sz : Value) (h : CN w ow b M L) (hS : Cm.RS setC 2 w w.heap.size S 1 [(4, v)]) (hv : v ≤ 65535) (hs : M.strs = []) (hot : M.others = 65535) (ho : M.out.length ≤ 1000000000) (hn : M.evs.length ≤ 900000) :
    Calls Tryz.prog 155 #[.pointer (some ⟨b, 0, none⟩), .agg (infC { typ := 4, sets := [(4, v)] } (.slice S 1 d) dv), sz] w (CPost w ow b { M with others := v, out := M.out ++ frameB 4 1 0 [], evs := M.evs ++ [{ kind := 7 }] } (.tuple #[])) := by
  have HX := Lib.hid (Blk.new w 91 (infC { typ := 4, sets := [(4, v)] } (.slice S 1 d) dv))
  have HB0 := Lib.hid ((Below.refl w.heap.size w).alloc (Nat.le_refl _) (.cells (infC { typ := 4, sets := [(4, v)] } (.slice S 1 d) dv) 91))
  have HC := Lib.hid h
  have HN := Lib.hid hn
  have HO := Lib.hid ho
  obtain ⟨ad, x, rfl, hx, h0, hr⟩ := hS.at2 (j := 0) (by decide)
  obtain rfl : (4, v) = x := by simpa using hx
  have HS0 := Lib.hid (show w.cell? (ad.add (0 * 2)) = some (.int .i64 4) from h0)
  have HS1 := Lib.hid (show w.cell? ⟨(ad.add (0 * 2)).block, (ad.add (0 * 2)).off + 1, none⟩ = some (.int .i64 (v : Nat)) from hr 1 _ (by decide) rfl)
  have HSt := Lib.hid (show _ ∧ _ from ⟨hs, hv⟩)
  have had := World.block_lt_of_cell? w _ h0
  clear hS hx h0 hr
  go_enter Tryz.func155, Tryz.ntmps155
  go_upto_region 1 with fail
  generalize w.alloc (.cells (infC { typ := 4, sets := [(4, v)] } (.slice (some ad) 1 d) dv) 91) = W0 at *
  have HC0 := Lib.hid (HC.out.below HB0.out)
  have c5 : W0.cell? ⟨w.heap.size, 5, none⟩ = some (.bool false) := HX.out.cell 5
  have c16 : W0.cell? ⟨w.heap.size, 16, none⟩ = some (.slice (some ad) 1 d) := HX.out.cell 16
  go_wp2_with fail
  go_loopw [60] (fun iv wr => Hid ((iv = .int .i64 0 ∧ wr = W0) ∨ (iv = .int .i64 1 ∧ ∃ ow2, CN wr ow2 b { M with others := v } L ∧ Fr w ow wr ow2))) (fun iv _ => 1 - (intOf iv).toNat)
  case atStart => exact .inl ⟨rfl, rfl⟩
  case round =>
    rcases hrel with ⟨rfl, hw⟩ | ⟨rfl, ow2, hc2, hf2⟩
    · subst wr
      have e0 : W0.cell? (ad.add 0) = some (.int .i64 4) := (HB0.out.cell (by rw [add_block]; exact had)).trans HS0.out
      have e0' : W0.cell? ad = some (.int .i64 4) := e0
      have e1 : W0.cell? ⟨ad.block, ad.off + 1, none⟩ = some (.int .i64 (v : Nat)) := (HB0.out.cell (p := ⟨ad.block, ad.off + 1, none⟩) had).trans HS1.out
      go_upto_region 20 with fail
      have hx4 := Blk.new W0 87 #[.int .i64 4, .int .i64 (v : Nat)]
      have hb4 := (Below.refl W0.heap.size W0).alloc (Nat.le_refl _) (.cells #[.int .i64 4, .int .i64 (v : Nat)] 87)
      generalize W0.alloc (.cells #[.int .i64 4, .int .i64 (v : Nat)] 87) = W4 at *
      have HC4 := Lib.hid (HC0.out.below hb4)
      have HF4 := Lib.hid (Fr.below (HB0.out.trans (hb4.mono HB0.out.size)) ow)
      have x1 : W4.cell? ⟨W0.heap.size, 1, none⟩ = some (.int .i64 (v : Nat)) := hx4.cell 1
      have x0 : W4.cell? ⟨W0.heap.size, 0, none⟩ = some (.int .i64 4) := hx4.cell 0
      have y11 : W4.cell? ⟨b, 11, none⟩ = some (.int .i64 65535) := by
        have e : W4.cell? ⟨b, 11, none⟩ = some (.int .i64 M.others) := HC4.out.blk.cell 11
        rw [hot] at e
        exact e
      have f11 := HC4.out.blk.frozen 11
      clear hx4 hb4 e0 e0' e1 c5 c16
      go_quiet (fail)
      have HC5 := Lib.hid (HC4.out.drewN nq)
      have HF5 := Lib.hid (HF4.out.trans (Fr.drewN W4 ow nq))
      have x1 : (W4.drewN nq).cell? ⟨W0.heap.size, 1, none⟩ = some (.int .i64 (v : Nat)) := x1
      have f11 : (W4.drewN nq).frozen? ⟨b, 11, none⟩ = false := f11
      have y11 : (W4.drewN nq).cell? ⟨b, 11, none⟩ = some (.int .i64 65535) := y11
      generalize W4.drewN nq = W5 at *
      have h6 := HC5.out.othersAre (v : Int)
      have HC6 := Lib.hid h6.1
      have HF6 := Lib.hid (HF5.out.trans h6.2)
      clear h6
      go_upto_region 22 with fail
      clear x1 y11 f11
      generalize W5.setCell ⟨b, 11, none⟩ (.int .i64 (v : Nat)) = W6 at *
      obtain ⟨clock, hmap⟩ := HC6.out.noMap HSt.out.1
      have c15 : W6.cell? ⟨b, 15, none⟩ = some (.map (some L.mb)) := HC6.out.blk.cell 15
      have hrg := run_range_map (P := Tryz.prog) W6 74 3 93 L.mb #[] clock Tryz.underlying74 hmap
      have hnx := fun ty => next_none W6 ty L.mb clock hmap
      have hb7 := (Below.refl W6.heap.size W6).alloc (Nat.le_refl _) (.mapIter (some L.mb) clock #[] clock)
      have HC7 := Lib.hid (HC6.out.below hb7)
      have HF7 := Lib.hid (HF6.out.trans (Fr.below hb7 ow))
      clear hb7 hmap
      go_upto_region 23 with fail
      generalize W6.alloc (.mapIter (some L.mb) clock #[] clock) = W7 at *
      go_loopw [] (fun wr => Hid (wr = W7)) (fun _ => 0)
      case atStart => rfl
      case round =>
        obtain rfl := hrel.out
        go_wp2
        exact ⟨.inr ⟨rfl, ow, HC7.out, HF7.out⟩, by simp [intOf]⟩
    · have HC2 := Lib.hid hc2
      have HF2 := Lib.hid hf2
      have hput := put_any wr ow2 b _ L _ _ hc2 rfl (bld_ack wr) HO.out
      rw [infC_ack, flg_ack, pay_ack] at hput
      have HP := Lib.hid hput
      clear hc2 hf2 hput c5 c16
      go_wp2_with (first
        | (go_at_call 39
           refine HP.out.mono ?_
           rintro e w1 ⟨ow1, L1, rfl, hc1, hf1⟩
           have HF1 := Lib.hid (HF2.out.trans hf1)
           have HT := tell_any w1 ow1 b _ L1 { kind := 7 } hc1 (evOk_plain _ _ _ _ _ _ _) HN.out
           rw [evC_plain] at HT
           have HT := Lib.hid HT
           clear hc1 hf1)
        | (go_at_call 109
           refine HT.out.mono ?_
           intro e w2 hp
           obtain rfl := hp.ret
           have HQ := Lib.hid hp
           clear hp)
        | fail)
      go_end0
      exact HQ.out.trans HF1.out
end Go.Proofs.YtkpppjhbmnfmkaaGreatDoor
end

section
namespace Go.Proofs.YtkpppjhbmnfmkaaGreatDoor
open Go.RowKit Go.Own Go.Own.Im Go.Own.Cx Go.Own.Fr Go.Own.Hd
/-- Settings that tell a window are behind. -/
def setwM (M : Cv) (v : Nat) : Cv := { M with greeted := true, others := v, out := M.out ++ frameB 4 1 0 [], evs := M.evs ++ [{ kind := 7 }] }
theorem takes_setw (M : Cv) (v : Nat) (hv : v ≤ 65535) (hs : M.strs = []) (hot : M.others = 65535) (hl : M.list = none) (ho : M.out.length ≤ 1000000000) (hn : M.evs.length ≤ 900000) : TakesT M 4 0 0 (setB [(4, v)]) (fun M' => M' = setwM M v) := by
  intro w ow b L A c hE h hr hno hc
  have ho4 : opn 4 0 0 (setB [(4, v)]) = .ok { typ := 4, sets := [(4, v)] } := opn_set [(4, v)] (fun s hm => by
    rcases List.mem_singleton.1 hm with rfl
    refine ⟨(show 4 < 65536 by decide), by show v < _; omega, ?_⟩
    unfold badSet
    rw [if_neg (by simp), if_neg (by show ¬ (4 = 4 ∧ 2147483647 < v); omega)])
  refine takes_any w ow b M L _ 4 0 0 155 #[.pointer (some ⟨b, 0, none⟩)] (fun _ => #[]) A 6 c (setB [(4, v)]) { typ := 4, sets := [(4, v)] } h hr hno hc (by decide) (by decide) (by decide) (by decide) rfl (by decide) hl (by decide) (.inr ⟨rfl, by decide⟩) ho4 (fun g => rfl) enter_settings (fun e w' hq => .inl hq.ret) ?_
  intro W g sv dv hcW hfW hbk hg hs' hd
  obtain ⟨A5, c5, rfl, _, hrs⟩ := SetR.of_own hs'
  exact (settings_win W ow b { M with greeted := true } L v A5 c5 dv (.int .i64 (6 : Nat)) hcW hrs hv hs hot ho hn).mono fun e w' hp => ⟨_, rfl, hp.trans hfW⟩
theorem runs_setw (M : Cv) (v : Nat) (hv : v ≤ 65535) (hs : M.strs = []) (hot : M.others = 65535) (hp : M.preface = 24) (hd : M.dead = false) (hl : M.list = none) (ho : M.out.length ≤ 1000000000) (hn : M.evs.length ≤ 900000) : Runs 1 { M with fed := frameB 4 0 0 (setB [(4, v)]) } (fun M' => M' = setwM { M with fed := [] } v) := by
  refine .more hd (step_takes _ _ 4 0 0 (setB [(4, v)]) [] hp (by show frameB 4 0 0 (setB [(4, v)]) = _; rw [List.append_nil]) (by decide) (by decide) (by decide) (by rw [setB_len]; exact (show 6 * 1 ≤ 16384 by decide)) (takes_setw _ v hv hs hot hl ho hn)) fun M1 h1 => ?_
  subst h1
  exact .stop hd ((step_few (setwM { M with fed := [] } v) hp (by show ([] : List UInt8).length < 9; decide)).mono fun M' h' => h')
set_option maxHeartbeats 4000000 in
set_option maxRecDepth 100000 in
/-- A stream's window is given n more. -/
theorem works7_str (w : World) (ow : Nat → Tg) (b g : Nat) (M : Cv) (L : Lay) (s : Sv) (n : Nat) (sv dv sz : Value) (h : CN w ow b M L) (hg : Blk w g 26 #[.pointer (some ⟨b, 0, none⟩)]) (hk : knownB M s.id = true) (hst : strAt M (s.id : Int) = some s) (hid : 0 < s.id ∧ s.id ≤ 2147483647) (h0 : 1 ≤ n) (hn : n ≤ 65536) (ha : 0 ≤ s.outw ∧ s.outw ≤ 65535) :
    Calls Tryz.prog 158 #[.agg (infC { typ := 8, stream := s.id, inc := n } sv dv), sz, .pointer (some ⟨g, 0, none⟩)] w (CPost w ow b { M with strs := updS M.strs { s with outw := s.outw + n } } (.tuple #[])) := by
  have HX := Lib.hid (Blk.new w 91 (infC { typ := 8, stream := s.id, inc := n } sv dv))
  have HB0 := Lib.hid ((Below.refl w.heap.size w).alloc (Nat.le_refl _) (.cells (infC { typ := 8, stream := s.id, inc := n } sv dv) 91))
  have HC := Lib.hid h
  have HG := Lib.hid hg
  obtain ⟨h1, hmem, _⟩ := at_some (L := L) hst
  have hwf : (Lit.int .i64 (s.id : Int)).wf = true := by simp [Lit.wf, IntKind.min, IntKind.max, IntKind.bits, IntKind.signed]; omega
  have HM := Lib.hid (show _ ∧ _ ∧ _ ∧ _ ∧ _ ∧ _ from ⟨hmem, hk, hwf, h1, h0, ha⟩)
  have k0 : ((s.id : Int) = 0) = False := by simp; omega
  have k0' : (s.id = 0) = False := by simp; omega
  have k00 : ((s.id : Int) == 0) = false := by simp; omega
  have HN := Lib.hid hn
  clear h hg hst hid h0 hn ha h1 hmem hwf hk
  go_enter Tryz.func158, Tryz.ntmps158
  go_upto_region 1 with fail
  generalize w.alloc (.cells (infC { typ := 8, stream := s.id, inc := n } sv dv) 91) = W0 at *
  have HC0 := Lib.hid (HC.out.below HB0.out)
  have c2 : W0.cell? ⟨w.heap.size, 2, none⟩ = some (.int .i64 (s.id : Nat)) := HX.out.cell 2
  have c14 : W0.cell? ⟨w.heap.size, 14, none⟩ = some (.int .i64 (n : Nat)) := HX.out.cell 14
  have g0 : W0.cell? ⟨g, 0, none⟩ = some (.pointer (some ⟨b, 0, none⟩)) := (HG.out.below HB0.out HG.out.lt).cell 0
  have HI := Lib.hid (idle_ok W0 ow b M L s.id HC0.out HM.out.2.1 HM.out.2.2.1)
  go_wp2_with fail
  refine HI.out.mono ?_
  rintro e w1 ⟨rfl, hw⟩
  subst w1
  rw [HM.out.2.2.2.1]
  have hS := HC0.out.p.strs s HM.out.1
  have d4 : W0.cell? ⟨(L.s s.id).sb, 4, none⟩ = some (.pointer (some ⟨(L.s s.id).ob, 0, none⟩)) := hS.blk.cell 4
  have hgv : ∀ W, Blk W (L.s s.id).ob 177 #[.int .i64 s.outw] → Calls Tryz.prog 159 #[.pointer (some ⟨(L.s s.id).ob, 0, none⟩), .int .i64 (n : Nat)] W fun e w' => e = .returned .nilIface ∧ w' = W.setCell ⟨(L.s s.id).ob, 0, none⟩ (.int .i64 (s.outw + (n : Int))) := fun W hW =>
    give_yes W (L.s s.id).ob s.outw n hW ⟨by have := HM.out.2.2.2.2.2; omega, by have := HM.out.2.2.2.2.2; omega⟩ HM.out.2.2.2.2.1 (by have := HM.out.2.2.2.2.2; have := HN.out; omega) (by have := HN.out; omega)
  have HGva := Lib.hid (hgv W0 hS.outw)
  have HGvb := Lib.hid (hgv W0.drew hS.outw)
  have ka := HC0.out.souts (s := s) HM.out.1 (s.outw + (n : Int))
  have kb := HC0.out.drew.souts (s := s) HM.out.1 (s.outw + (n : Int))
  have HKa := Lib.hid ka
  have HKb := Lib.hid (show _ ∧ _ from ⟨kb.1, (Fr.drewN W0 ow 1).trans kb.2⟩)
  obtain ⟨sb, hsb⟩ : ∃ x, (L.s s.id).sb = x := ⟨_, rfl⟩
  have HSb := Lib.hid hsb
  have HXo := Lib.hid (HC.out.new w.heap.size (Nat.le_refl _))
  rw [hsb] at d4 ⊢
  have HS0 := Lib.hid (show W0.cell? ⟨sb, 4, none⟩ = some (.pointer (some ⟨(L.s s.id).ob, 0, none⟩)) ∧ W0.cell? ⟨w.heap.size, 14, none⟩ = some (.int .i64 (n : Nat)) from ⟨d4, c14⟩)
  have HS0d := Lib.hid (show W0.drew.cell? ⟨sb, 4, none⟩ = some (.pointer (some ⟨(L.s s.id).ob, 0, none⟩)) ∧ W0.drew.cell? ⟨w.heap.size, 14, none⟩ = some (.int .i64 (n : Nat)) from ⟨d4, c14⟩)
  clear hS c2 hgv ka kb hsb
  go_wp2_with fail
  go_region_held3 (fun W' => W'.cell? ⟨sb, 4, none⟩ = some (.pointer (some ⟨(L.s s.id).ob, 0, none⟩)) ∧ W'.cell? ⟨w.heap.size, 14, none⟩ = some (.int .i64 (n : Nat))) (first | with_reducible exact HS0.out | with_reducible exact HS0d.out | with_reducible exact HS3.out) (first
    | (go_at_call 159
       first | with_reducible refine Calls.mono HGva.out ?_ | with_reducible refine Calls.mono HGvb.out ?_
       rintro e w3 ⟨rfl, hw3⟩
       have hcn : CN w3 ow b { M with strs := updS M.strs { s with outw := s.outw + (n : Int) } } L ∧ Fr W0 ow w3 ow := by first | exact hw3 ▸ HKa.out | exact hw3 ▸ HKb.out
       have HCn := Lib.hid hcn
       have hb3 := (hcn.1.p.strs { s with outw := s.outw + (n : Int) } (mem_updS HM.out.1 rfl)).blk
       rw [show (L.s ({ s with outw := s.outw + (n : Int) } : Sv).id).sb = sb from HSb.out] at hb3
       have HS3 := Lib.hid (show w3.cell? ⟨sb, 4, none⟩ = some (.pointer (some ⟨(L.s s.id).ob, 0, none⟩)) ∧ w3.cell? ⟨w.heap.size, 14, none⟩ = some (.int .i64 (n : Nat)) from ⟨hb3.cell 4, (hcn.2.blk HX.out HXo.out).cell 14⟩)
       clear hw3 hcn hb3)
    | fail)
  go_wp2
  go_end0
  exact ⟨ow, L, rfl, HCn.out.1, (Fr.below HB0.out ow).trans HCn.out.2⟩
theorem enter_works7 : Enters Tryz.prog 158 := enters_of Tryz.func158 (by kernel_rfl) rfl
/-- A stream's window was given more. -/
def winM (M : Cv) (s : Sv) (n : Nat) : Cv := { M with strs := updS M.strs { s with outw := s.outw + n } }
theorem takes_win (M : Cv) (s : Sv) (n : Nat) (hg : M.greeted = true) (hl : M.list = none) (hk : knownB M s.id = true) (hst : strAt M (s.id : Int) = some s) (hid : 0 < s.id ∧ s.id ≤ 2147483647) (h0 : 1 ≤ n) (hn : n ≤ 65536) (ha : 0 ≤ s.outw ∧ s.outw ≤ 65535) : TakesT M 8 0 s.id (be n 4) (fun M' => M' = winM M s n) := by
  intro w ow b L A c hE h hr hno hc
  have hM : ({ M with greeted := true } : Cv) = M := by
    cases M
    simp only at hg
    subst hg
    rfl
  refine takes_any w ow b M L _ 8 0 s.id 158 #[] (fun g => #[.pointer (some ⟨g, 0, none⟩)]) A 4 c (be n 4) { typ := 8, stream := s.id, inc := n } h hr hno hc (by decide) (by decide) (by decide) hid.2 rfl (by decide) hl (by decide) (.inl hg) (opn_window s.id n (by omega) (by omega)) (fun g => rfl) enter_works7 (fun e w' hq => .inl hq.ret) ?_
  intro W g sv dv hcW hfW hbk hg' hs hd
  rw [hM] at hcW
  exact (works7_str W ow b g M L s n sv dv (.int .i64 (4 : Nat)) hcW hbk hk hst hid h0 hn ha).mono fun e w' hp => ⟨_, rfl, hp.trans hfW⟩
theorem runs_win (M : Cv) (s : Sv) (n : Nat) (hp : M.preface = 24) (hd : M.dead = false) (hf : M.fed = []) (hg : M.greeted = true) (hl : M.list = none) (hk : knownB M s.id = true) (hst : strAt M (s.id : Int) = some s) (hid : 0 < s.id ∧ s.id ≤ 2147483647) (h0 : 1 ≤ n) (hn : n ≤ 65536) (ha : 0 ≤ s.outw ∧ s.outw ≤ 65535) :
    Runs 1 { M with evs := [], fed := M.fed ++ frameB 8 0 s.id (be n 4) } (fun M' => M' = winM { M with evs := [] } s n) := by
  have hM : ({ ({ M with evs := [], fed := M.fed ++ frameB 8 0 s.id (be n 4) } : Cv) with fed := [] } : Cv) = { M with evs := [] } := by
    cases M
    simp only at hf
    subst hf
    rfl
  refine .more hd (step_takes _ (fun M' => M' = winM { M with evs := [] } s n) 8 0 s.id (be n 4) [] hp (by rw [hf, List.nil_append, List.append_nil]) (by decide) (by decide) hid.2 (by rw [be_len]; decide) (by rw [hM]; exact takes_win { M with evs := [] } s n hg hl hk hst hid h0 hn ha)) fun M1 h1 => ?_
  subst h1
  exact .stop hd ((step_few (winM { M with evs := [] } s n) hp (by show M.fed.length < 9; rw [hf]; decide)).mono fun M' h' => h')
end Go.Proofs.YtkpppjhbmnfmkaaGreatDoor
end

section
namespace Go.Proofs.YtkpppjhbmnfmkaaGreatDoor
open Go.RowKit Go.Own
set_option maxHeartbeats 400000 in
set_option maxRecDepth 100000 in
theorem bytes_any (A : Option Addr) (n c : Nat) (l : List UInt8) (w : World) (B : Nat) (hr : Rd w B A n l) (hB : B ≤ w.heap.size) (hn : n ≤ 1000000000000) :
    Calls Tryz.prog 19 #[.slice A n c] w fun e w' => e = .returned (.slice (some ⟨w.heap.size, 0, none⟩) n n) ∧
      Ow w' w.heap.size 5 (.slice (some ⟨w.heap.size, 0, none⟩) n n) n l ∧ Below w.heap.size w w' := by
  have HR := Lib.hid hr; clear hr
  go_enter Tryz.func19, Tryz.ntmps19
  go_wp2_with (first
    | (at_make
       refine wpList_mk _ byteP rfl _ _ rfl w.heap.size .i64 .i64 _ n rfl rfl ?_ ?_ (Nat.le_refl _) ?_
       · rfl
       · omega
       intro w1 ho1 hg1
       have hb1 : Below w.heap.size w w1 := (Below.refl _ _).grown hg1 (Nat.le_refl _) (by simp)
       have HR1 := Lib.hid ((HR.out.more hB).below hb1))
    | (at_builtin
       refine wpList_app_fits _ byteP rfl (.tmp 5) (.tmp 6) rfl w.heap.size w.heap.size 0 n [] rfl ho1 w.heap.size A n c l rfl HR1.out ?_ ?_
       · omega
       intro w2 ho2 hg2
       have hb2 : Below w.heap.size w w2 := hb1.grown hg2 hb1.size (by simp)))
  go_ret
  simp only [Nat.zero_add, List.nil_append] at ho2 ⊢
  exact ⟨rfl, ho2, hb2⟩
end Go.Proofs.YtkpppjhbmnfmkaaGreatDoor
end

section
namespace Go.Proofs.YtkpppjhbmnfmkaaGreatDoor
open Go.RowKit Go.Own Go.Own.Fr
set_option maxHeartbeats 1000000 in
set_option maxRecDepth 100000 in
theorem refnum_any (A : Option Addr) (n c : Nat) (l : List UInt8) (w : World) (B : Nat) (hr : Rd w B A n l) (hn : n ≤ 4) :
    Calls Tryz.prog 98 #[.slice A n c] w fun e w' => e = .returned (.int .i64 (ofB 0 l : Nat)) ∧ w' = w := by
  have hl := hr.1
  have HR := Lib.hid hr; clear hr
  go_enter Tryz.func98, Tryz.ntmps98
  go_wp2
  go_loopw [3, 4] (fun nv iv wr => wr = w ∧ ∃ j : Nat, j ≤ n ∧ iv = .int .i64 (j : Int) ∧ nv = .int .i64 (ofB 0 (l.take j) : Nat)) (fun _ iv _ => n - (intOf iv).toNat)
  case atStart => exact ⟨rfl, 0, Nat.zero_le _, rfl, rfl⟩
  case round =>
    obtain ⟨rfl, j, hj, rfl, rfl⟩ := hrel
    by_cases hlt : j < n
    · obtain ⟨ad, rfl, hb, hc⟩ := HR.out.at_ hlt
      have ha : ofB 0 (l.take j) < 281474976710656 := by
        have h1 := ofB_lt (l.take j) 0
        have h2 : (l.take j).length ≤ 3 := by rw [List.length_take]; omega
        have h3 : 256 ^ (l.take j).length ≤ 256 ^ 3 := Nat.pow_le_pow_right (by omega) h2
        omega
      have e : ofB 0 (l.take (j + 1)) = ofB 0 (l.take j) * 256 + (l.getD j 0).toNat := by
        rw [List.take_succ_eq_append_getElem (show j < l.length by omega), ofB_app, ofB_cons, ofB_nil]
        rw [List.getD, List.getElem?_eq_getElem (show j < l.length by omega)]
        rfl
      have HE := Lib.hid e; clear e
      generalize ofB 0 (l.take j) = a at *
      obtain ⟨x, hx⟩ : ∃ x : Nat, (l.getD j 0).toNat = x := ⟨_, rfl⟩
      have hx256 : x < 256 := by rw [← hx]; exact (l.getD j 0).toNat_lt
      rw [hx] at hc
      have HX := Lib.hid hx; clear hx
      have w1 : wrap64 ((a : Int) * 256) = ((a * 256 : Nat) : Int) := by unfold wrap64; omega
      have w2 : wrap64 (((a * 256 : Nat) : Int) + (x : Int)) = ((a * 256 + x : Nat) : Int) := by unfold wrap64; omega
      have w3 : IntKind.i64.wrap (x : Int) = (x : Int) := by rw [IntKind.wrap_i64]; omega
      go_wp2
      refine ⟨⟨trivial, j + 1, by omega, by go_num, ?_⟩, by simp [intOf]; omega⟩
      rw [HE.out, HX.out]
      first | done | simp | (simp; omega)
    · go_wp2
      go_ret
      have : j = n := by omega
      subst this
      rw [← hl, List.take_length]
      exact ⟨rfl, rfl⟩
theorem results_rget (tmps : Array Value) (w : World) (g : Nat) (a b c d u v : Value) (ht : tmps[4]? = some (.pointer (some ⟨g, 0, none⟩))) (h5 : tmps[5]? = some u) (h6 : tmps[6]? = some v) (hb : Blk w g 24 #[a, b, c, d]) :
    (results Tryz.f63 tmps).run Tryz.prog w = .ok (.tuple #[.agg #[a, b, c, d], u, v]) w := by
  have c0 : w.cell? ⟨g, 0, none⟩ = some a := hb.cell 0
  have c1 : w.cell? ⟨g, 1, none⟩ = some b := hb.cell 1
  have c2 : w.cell? ⟨g, 2, none⟩ = some c := hb.cell 2
  have c3 : w.cell? ⟨g, 3, none⟩ = some d := hb.cell 3
  simp [results, Tryz.results63, go_sem, ht, h5, h6, c0, c1, c2, c3]
theorem low_facts (v : Nat) : Int.tmod (v : Int) 2147483648 = (low v : Int) ∧ (v : Int) % 2147483648 = (low v : Int) ∧ wrap64 (low v : Int) = (low v : Int) ∧ IntKind.i64.wrap (low v : Int) = (low v : Int) := by
  refine ⟨?_, ?_, ?_, ?_⟩
  · rw [Int.tmod_eq_emod_of_nonneg (by omega)]; unfold low; omega
  · unfold low; omega
  · unfold low wrap64; omega
  · rw [IntKind.wrap_i64]; unfold low; omega
set_option maxHeartbeats 8000000 in
set_option maxRecDepth 100000 in
/-- A whole frame. -/
theorem refget_any (A : Option Addr) (n c : Nat) (l : List UInt8) (w : World) (B : Nat) (m : Nat) (hr : Rd w B A n l) (hB : B ≤ w.heap.size) (hc : n ≤ c) (hm : ofB 0 (l.take 3) = m) (h2 : 9 + m ≤ n) (h3 : m ≤ 16777215) :
    Calls Tryz.prog 63 #[.slice A n c, .int .i64 16777216] w fun e w' => ∃ A' c', e = .returned (.tuple #[.agg #[.int .i64 ((l.getD 3 0).toNat : Int), .int .i64 ((l.getD 4 0).toNat : Int), .int .i64 (low (ofB 0 ((l.drop 5).take 4)) : Nat), .slice A' m c'], .int .i64 (9 + m : Nat), .int .i64 0]) ∧
      Ow w' w.heap.size 5 (.slice A' m c') m ((l.drop 9).take m) ∧ Below w.heap.size w w' := by
  obtain ⟨ad, rfl, hbk, hc3⟩ := hr.at_ (k := 3) (by omega)
  have hc4 : w.cell? (ad.add 4) = some (.int .u8 ((l.getD 4 0).toNat : Int)) := by
    obtain ⟨ad', e, _, h⟩ := hr.at_ (k := 4) (by omega)
    injection e with e
    subst e
    exact h
  have HR := Lib.hid hr; clear hr
  have HC34 := Lib.hid (show w.cell? (ad.add 3) = some (.int .u8 ((l.getD 3 0).toNat : Int)) ∧ w.cell? (ad.add 4) = some (.int .u8 ((l.getD 4 0).toNat : Int)) from ⟨hc3, hc4⟩)
  have HBk := Lib.hid (show ad.block < w.heap.size from Nat.lt_of_lt_of_le hbk hB)
  clear hc3 hc4 hbk
  have hi3 : ((3 : Int) < (n : Int)) = True := by simp; omega
  have hi4 : ((4 : Int) < (n : Int)) = True := by simp; omega
  have hm1 : ((16777216 : Int) < (m : Int)) = False := by simp; omega
  have hm2 : ((n : Int) < 9 + (m : Int)) = False := by simp; omega
  have hw9 : wrap64 (9 + (m : Int)) = 9 + (m : Int) := wrap_nine m (by omega)
  have hw9' : IntKind.i64.wrap (9 + (m : Int)) = 9 + (m : Int) := wrapI_nine m (by omega)
  have h9' : ((n : Int) < 9) = False := by simp; omega
  have hm3 : 9 + (m : Int) = ((9 + m : Nat) : Int) := by omega
  have HM3 := Lib.hid hm3
  have HS := Lib.hid (show 9 + m ≤ n ∧ m ≤ 16777215 from ⟨h2, h3⟩)
  have HC := Lib.hid hc
  have hlow : ofB 0 ((l.drop 5).take 4) < 9223372036854775808 := by
    have h1 := ofB_lt ((l.drop 5).take 4) 0
    have h2 : ((l.drop 5).take 4).length ≤ 4 := List.length_take_le _ _
    have h3 : 256 ^ ((l.drop 5).take 4).length ≤ 256 ^ 4 := Nat.pow_le_pow_right (by omega) h2
    omega
  obtain ⟨v5, hv5⟩ : ∃ v, ofB 0 ((l.drop 5).take 4) = v := ⟨_, rfl⟩
  rw [hv5] at hlow ⊢
  obtain ⟨lo, hlo⟩ : ∃ lo, low v5 = lo := ⟨_, rfl⟩
  obtain ⟨hr1, hr2, hr3, hr4⟩ := low_facts v5
  rw [hlo] at hr1 hr2 hr3 hr4 ⊢
  clear hlow hlo
  obtain ⟨x3, hx3⟩ : ∃ x : Int, ((l.getD 3 0).toNat : Int) = x := ⟨_, rfl⟩
  obtain ⟨x4, hx4⟩ : ∃ x : Int, ((l.getD 4 0).toNat : Int) = x := ⟨_, rfl⟩
  have r3 : 0 ≤ x3 := by omega
  have r3' : x3 < 256 := by have := (l.getD 3 0).toNat_lt; omega
  have r4 : 0 ≤ x4 := by omega
  have r4' : x4 < 256 := by have := (l.getD 4 0).toNat_lt; omega
  rw [hx3, hx4] at HC34 ⊢
  have hwx3 : IntKind.i64.wrap x3 = x3 := by rw [IntKind.wrap_i64]; omega
  have hwx4 : IntKind.i64.wrap x4 = x4 := by rw [IntKind.wrap_i64]; omega
  clear hx3 hx4
  go_enter Tryz.func63, Tryz.ntmps63
  go_upto_region 1 with fail
  have HX := Lib.hid (Blk.new w 24 #[.int .i64 0, .int .i64 0, .int .i64 0, .slice none 0 0])
  have HB0 := Lib.hid ((Below.refl w.heap.size w).alloc (Nat.le_refl _) (.cells #[.int .i64 0, .int .i64 0, .int .i64 0, .slice none 0 0] 24))
  have HZ := Lib.hid (show (w.alloc (.cells #[.int .i64 0, .int .i64 0, .int .i64 0, .slice none 0 0] 24)).heap.size = w.heap.size + 1 by simp)
  generalize w.alloc (.cells #[.int .i64 0, .int .i64 0, .int .i64 0, .slice none 0 0] 24) = w0 at HX HB0 HZ ⊢
  have HR0 := Lib.hid ((HR.out.more hB).below HB0.out)
  obtain ⟨A3, hra, hrun⟩ := cut_head byteP HR0.out (3 : Int) (k := 3) rfl (by omega) hc
  have HO := Lib.hid (refnum_any A3 3 c (l.take 3) w0 _ hra (by omega))
  rw [hm] at HO
  obtain ⟨A4, hrb, hrun2⟩ := cut_mid byteP HR0.out (5 : Int) (9 : Int) (k := 5) (m := 4) rfl rfl (by omega) hc
  obtain ⟨A9, hrc, hrun3⟩ := cut_mid byteP HR0.out (9 : Int) (9 + (m : Int)) (k := 9) (m := m) rfl hm3 h2 hc
  have HRb := Lib.hid hrb
  have HRc := Lib.hid hrc
  clear hra hrb hrc hm h2 h3 hc hm3
  go_upto_region 8 with (first
    | (go_at_call 98
       refine HO.out.mono ?_
       rintro e w' ⟨rfl, hw⟩
       subst w')
    | fail)
  have HSf := Lib.hid (fun W (hW : Below w0.heap.size w0 W) => (show W.cell? ⟨ad.block, ad.off + 3, none⟩ = some (.int .u8 x3) ∧ W.cell? ⟨ad.block, ad.off + 4, none⟩ = some (.int .u8 x4) from
    have e3 : W.cell? (ad.add 3) = w.cell? (ad.add 3) := (hW.cell (by rw [add_block]; have := HBk.out; have := HZ.out; omega)).trans (HB0.out.cell (by rw [add_block]; exact HBk.out))
    have e4 : W.cell? (ad.add 4) = w.cell? (ad.add 4) := (hW.cell (by rw [add_block]; have := HBk.out; have := HZ.out; omega)).trans (HB0.out.cell (by rw [add_block]; exact HBk.out))
    ⟨e3.trans HC34.out.1, e4.trans HC34.out.2⟩))
  have HKf := Lib.hid (fun W (hW : Below w0.heap.size w0 W) => HX.out.below hW HX.out.lt)
  have HOb := Lib.hid (fun W (hW : Below w0.heap.size w0 W) => refnum_any A4 4 (c - 5) ((l.drop 5).take 4) W _ (HRb.out.below (hW.mono (by have := HZ.out; omega))) (by omega))
  have HOc := Lib.hid (fun W (hW : Below w0.heap.size w0 W) => bytes_any A9 m (c - 9) ((l.drop 9).take m) W _ (HRc.out.below (hW.mono (by have := HZ.out; omega))) (Nat.le_trans (by have := HZ.out; omega) hW.size) (by have := HS.out; omega))
  rw [hv5] at HOb
  have HS0 := Lib.hid (HSf.out w0 (Below.refl _ _))
  have HS0d := Lib.hid (HSf.out w0.drew (below_drew (Below.refl _ _)))
  have HB5 := Lib.hid (Below.refl w0.heap.size w0)
  have HS5 := HS0
  have HS5d := HS0
  have HS5s := Lib.hid (fun (_ _ _ _ : Value) => HS0.out)
  go_region_held3 (fun W' => W'.cell? ⟨ad.block, ad.off + 3, none⟩ = some (.int .u8 x3) ∧ W'.cell? ⟨ad.block, ad.off + 4, none⟩ = some (.int .u8 x4)) (first | with_reducible exact HS0.out | with_reducible exact HS0d.out | with_reducible exact HS5.out | with_reducible exact HS5d.out | with_reducible exact HS5s.out _ _ _ _) (first
    | (go_at_call 98
       refine (HOb.out _ (by first | exact below_drew (Below.refl _ _) | exact Below.refl _ _ | exact HB5.out | exact below_drew HB5.out)).mono ?_
       rintro e w' ⟨rfl, hw⟩
       subst w')
    | (go_at_call 19
       refine (HOc.out _ (by first | exact below_drew (Below.refl _ _) | exact Below.refl _ _)).mono ?_
       rintro e w5 ⟨rfl, ho5, hb5⟩
       have HO5 := Lib.hid (show Ow w5 w0.heap.size 5 _ _ _ from ho5)
       have HB5 := Lib.hid (show Below w0.heap.size w0 w5 from ⟨hb5.os, hb5.tape, hb5.output, hb5.size, hb5.block⟩)
       clear ho5 hb5
       have HS5 := Lib.hid (HSf.out w5 HB5.out)
       have HS5d := Lib.hid (HSf.out w5.drew (below_drew HB5.out))
       have HS5s := Lib.hid (fun (v0 v1 v2 v3 : Value) => (show ((((w5.setCell ⟨w.heap.size, 0, none⟩ v0).setCell ⟨w.heap.size, 1, none⟩ v1).setCell ⟨w.heap.size, 2, none⟩ v2).setCell ⟨w.heap.size, 3, none⟩ v3).cell? ⟨ad.block, ad.off + 3, none⟩ = some (.int .u8 x3) ∧ ((((w5.setCell ⟨w.heap.size, 0, none⟩ v0).setCell ⟨w.heap.size, 1, none⟩ v1).setCell ⟨w.heap.size, 2, none⟩ v2).setCell ⟨w.heap.size, 3, none⟩ v3).cell? ⟨ad.block, ad.off + 4, none⟩ = some (.int .u8 x4) from
         ⟨(cell_four w5 (by have := HBk.out; show ad.block ≠ w.heap.size; omega) v0 v1 v2 v3).trans HS5.out.1, (cell_four w5 (by have := HBk.out; show ad.block ≠ w.heap.size; omega) v0 v1 v2 v3).trans HS5.out.2⟩))
       have hk5 := HKf.out w5 HB5.out
       have f0 := hk5.frozen 0
       have f1 := hk5.frozen 1
       have f2 := hk5.frozen 2
       have f3 := hk5.frozen 3
       have c0 : w5.cell? ⟨w.heap.size, 0, none⟩ = _ := hk5.cell 0
       have c1 : w5.cell? ⟨w.heap.size, 1, none⟩ = _ := hk5.cell 1
       have c2 : w5.cell? ⟨w.heap.size, 2, none⟩ = _ := hk5.cell 2
       have c3 : w5.cell? ⟨w.heap.size, 3, none⟩ = _ := hk5.cell 3
       simp only [List.getElem?_toArray, List.getElem?_cons_zero, List.getElem?_cons_succ] at c0 c1 c2 c3
       clear hk5)
    | fail)
  all_goals
    go_wp2
    refine bodyPost_ret (results_rget _ _ w.heap.size _ _ _ _ _ _ rfl rfl rfl (Blk.four_put (HKf.out w5 HB5.out) rfl _ _ _ _)) rfl ?_
    rw [← HM3.out]
    refine ⟨_, _, rfl, ?_, below_four (HB0.out.trans (HB5.out.mono (by have := HZ.out; omega))) (Nat.le_refl _) _ _ _ _⟩
    exact (HO5.out.grown (grown_four w5 w.heap.size _ _ _ _) (.inr (by
      intro e
      have e2 : some w0.heap.size = some w.heap.size := e
      injection e2 with e2
      have := HZ.out
      omega))).base (by have := HZ.out; omega)
end Go.Proofs.YtkpppjhbmnfmkaaGreatDoor
end

section
namespace Go.Proofs.YtkpppjhbmnfmkaaGreatDoor
open Go.RowKit Go.Own Go.Own.Fr
/-- A frame: type, flags, stream, payload. -/
structure Fm where
  t : Nat
  f : Nat
  s : Nat
  p : List UInt8
def Fm.b (x : Fm) : List UInt8 := frameB x.t x.f x.s x.p
def Fm.ok (x : Fm) : Prop := x.t ≤ 255 ∧ x.f ≤ 255 ∧ x.s ≤ 2147483647 ∧ x.p.length ≤ 1000000
def fmsB : List Fm → List UInt8
  | [] => []
  | x :: l => x.b ++ fmsB l
/-- How much data is in them, and is it all? -/
def fmsN : List Fm → Nat
  | [] => 0
  | x :: l => (if x.t = 0 then x.p.length else 0) + fmsN l
def fmsE : List Fm → Bool
  | [] => false
  | x :: l => (decide (x.t = 0) && decide (x.f &&& 1 ≠ 0)) || fmsE l
theorem fmsB_app (l m : List Fm) : fmsB (l ++ m) = fmsB l ++ fmsB m := by
  induction l with
  | nil => rfl
  | cons x l ih => show x.b ++ fmsB (l ++ m) = (x.b ++ fmsB l) ++ fmsB m; rw [ih, List.append_assoc]
theorem fmsN_app (l m : List Fm) : fmsN (l ++ m) = fmsN l + fmsN m := by
  induction l with
  | nil => simp [fmsN]
  | cons x l ih => show _ + fmsN (l ++ m) = (_ + fmsN l) + fmsN m; rw [ih, Nat.add_assoc]
theorem fmsE_app (l m : List Fm) : fmsE (l ++ m) = (fmsE l || fmsE m) := by
  induction l with
  | nil => simp [fmsE]
  | cons x l ih => show (_ || fmsE (l ++ m)) = ((_ || fmsE l) || fmsE m); rw [ih, Bool.or_assoc]
theorem fms_le (l : List Fm) : fmsN l ≤ (fmsB l).length := by
  induction l with
  | nil => exact Nat.le_refl _
  | cons x l ih =>
    show (if x.t = 0 then x.p.length else 0) + fmsN l ≤ (frameB x.t x.f x.s x.p ++ fmsB l).length
    rw [List.length_append, frameB_len]
    split <;> omega
/-- Between two frames. -/
def LdR (w : World) (F : List Fm) (bv nv ev : Value) (wr : World) : Prop :=
  ∃ (G : List Fm) (A : Option Addr) (n c a : Nat) (e : Bool), bv = .slice A n c ∧ n ≤ c ∧ Rd wr wr.heap.size A n (fmsB G) ∧ nv = .int .i64 (a : Nat) ∧ ev = .bool e ∧ a + fmsN G = fmsN F ∧ (e || fmsE G) = fmsE F ∧ (∀ x ∈ G, x.ok) ∧ Below w.heap.size w wr
def lenOf (v : Value) : Nat := match v with | .slice _ n _ => n | _ => 0
set_option maxHeartbeats 8000000 in
set_option maxRecDepth 100000 in
theorem lawData_any (F : List Fm) (A : Option Addr) (n c : Nat) (w : World) (hr : Rd w w.heap.size A n (fmsB F)) (hc : n ≤ c) (hn : fmsN F ≤ 100000000) (hF : ∀ x ∈ F, x.ok) :
    Calls Tryz.prog 32 #[.slice A n c] w fun e w' => e = .returned (.tuple #[.int .i64 (fmsN F : Nat), .bool (fmsE F)]) ∧ Below w.heap.size w w' := by
  have HR := Lib.hid (show _ ∧ _ ∧ _ from ⟨hr, hc, hF⟩)
  have HM := Lib.hid hn
  clear hr hc hn hF
  go_enter Tryz.func32, Tryz.ntmps32
  go_upto_region 3 with fail
  go_loopw [0, 4, 5] (fun bv nv ev wr => Hid (LdR w F bv nv ev wr)) (fun bv _ _ _ => lenOf bv)
  case atStart => exact ⟨F, A, n, c, 0, false, rfl, HR.out.2.1, HR.out.1, rfl, rfl, Nat.zero_add _, rfl, HR.out.2.2, Below.refl _ _⟩
  case round =>
    obtain ⟨G, A1, n1, c1, a, e, rfl, hc1, hr1, rfl, rfl, hsum, hend, hok, hb⟩ := hrel
    have HB := Lib.hid hb
    rcases G with _ | ⟨x, G⟩
    · obtain rfl : n1 = 0 := by rw [← hr1.1]; rfl
      have e1 : a = fmsN F := by rw [← hsum]; rfl
      have e2 : e = fmsE F := by rw [← hend]; simp [fmsE]
      subst e1 e2
      clear hc1 hr1 hsum hend hok hb
      go_wp2
      go_ret2
      exact ⟨rfl, HB.out⟩
    · obtain ⟨t, f, q, p⟩ := x
      obtain ⟨ht, hf, hs, hp⟩ := hok _ (List.mem_cons_self ..)
      simp only at ht hf hs hp
      have hr1' : Rd wr wr.heap.size A1 n1 (frameB t f q p ++ fmsB G) := hr1
      obtain ⟨m, hm⟩ : ∃ m, p.length = m := ⟨_, rfl⟩
      obtain ⟨h1, h2, h3, h4, h5, h6⟩ := frame_parts t f q p (fmsB G) ht hf hs (by omega)
      have hlen : 9 + m ≤ n1 := by rw [← hr1'.1, List.length_append, frameB_len]; omega
      have hget := refget_any A1 n1 c1 _ wr _ m hr1' (Nat.le_refl _) hc1 (h1.trans hm) hlen (by omega)
      rw [h2, h3, h4, show ((frameB t f q p ++ fmsB G).drop 9).take m = p from hm ▸ h5] at hget
      have HGet := Lib.hid hget
      have HG := Lib.hid (show _ ∧ _ ∧ _ ∧ _ ∧ _ ∧ _ ∧ _ from ⟨hr1', hlen, hc1, hm, hsum, hend, fun x hx => hok x (List.mem_cons_of_mem _ hx)⟩)
      have H6 := Lib.hid (show (frameB t f q p ++ fmsB G).drop (9 + m) = fmsB G from hm ▸ h6)
      have hpos : ((0 : Int) < (n1 : Int)) = True := by simp; omega
      have hpos' : (0 < n1) = True := by simp; omega
      have hA : a ≤ 100000000 := by have := HM.out; omega
      have ha1 : wrap64 ((a : Int) + (m : Int)) = ((a + m : Nat) : Int) := by unfold wrap64; omega
      have HA1 := Lib.hid ha1
      clear ha1
      have hf1 : bits .and .i64 (f : Int) 1 = ((f &&& 1 : Nat) : Int) := and_nat f 1 (by omega) (by decide)
      have hA : a ≤ 100000000 := by have := HM.out; omega
      obtain ⟨A5, hr5, hcut⟩ := cut_from byteP hr1' (9 + (m : Int)) (k := 9 + m) (by omega) hlen hc1
      have HR5 := Lib.hid hr5
      clear hc1 hr1 hr1' hm h1 h2 h3 h4 h5 h6 hlen hget hok hsum hend hb hA hr5 ht hf hs hp
      go_wp2_with fail
      refine HGet.out.mono ?_
      rintro e1 w2 ⟨A2, c2, rfl, ho2, hb2⟩
      have HB2 := Lib.hid hb2
      clear ho2 hb2 hpos hpos'
      go_upto_region 5 with fail
      have hx := Blk.new w2 24 #[.int .i64 (t : Nat), .int .i64 (f : Nat), .int .i64 (q : Nat), .slice A2 m c2]
      have hb3 := (Below.refl w2.heap.size w2).alloc (Nat.le_refl _) (.cells #[.int .i64 (t : Nat), .int .i64 (f : Nat), .int .i64 (q : Nat), .slice A2 m c2] 24)
      generalize w2.alloc (.cells #[.int .i64 (t : Nat), .int .i64 (f : Nat), .int .i64 (q : Nat), .slice A2 m c2] 24) = W3 at *
      have y0 : W3.cell? ⟨w2.heap.size, 0, none⟩ = some (.int .i64 (t : Nat)) := hx.cell 0
      have y1 : W3.cell? ⟨w2.heap.size, 1, none⟩ = some (.int .i64 (f : Nat)) := hx.cell 1
      have y3 : W3.cell? ⟨w2.heap.size, 3, none⟩ = some (.slice A2 m c2) := hx.cell 3
      have hb23 := HB2.out.trans (hb3.mono HB2.out.size)
      have HBel := Lib.hid (HB.out.trans (hb23.mono HB.out.size))
      have hrd := (HR5.out.below hb23).more hb23.size
      rw [H6.out] at hrd
      have HRd := Lib.hid hrd
      obtain ⟨f1, hf1e⟩ : ∃ f1, f &&& 1 = f1 := ⟨_, rfl⟩
      rw [hf1e] at hf1
      have hend' : (e || ((decide (t = 0) && decide (f1 ≠ 0)) || fmsE G)) = fmsE F := hf1e ▸ HG.out.2.2.2.2.2.1
      have hsum' : a + ((if t = 0 then m else 0) + fmsN G) = fmsN F := HG.out.2.2.2.1 ▸ HG.out.2.2.2.2.1
      have HE := Lib.hid hend'
      have HS := Lib.hid hsum'
      clear hx hb3 hb23 hrd hf1e hend' hsum'
      by_cases ht0 : t = 0
      · subst ht0
        rcases e with _ | _
        · by_cases hq : f1 = 0
          · subst hq
            go_wp2
            exact ⟨⟨G, A5, n1 - (9 + m), c1 - (9 + m), a + m, false, rfl, by have := HG.out.2.2.1; omega, HRd.out, by first | rfl | rw [HA1.out], rfl, by have := HS.out; simp at this; omega, by have := HE.out; simpa using this, HG.out.2.2.2.2.2.2, HBel.out⟩, by have := HG.out.2.1; simp only [lenOf]; omega⟩
          · have kq : ((f1 : Int) = 0) = False := by simp; omega
            have kq' : (f1 = 0) = False := by simp; omega
            have kq2 : ((f1 : Int) != 0) = true := by simp; omega
            have HQ := Lib.hid hq
            go_wp2
            exact ⟨⟨G, A5, n1 - (9 + m), c1 - (9 + m), a + m, true, rfl, by have := HG.out.2.2.1; omega, HRd.out, by first | rfl | rw [HA1.out], rfl, by have := HS.out; simp at this; omega, by have := HE.out; simpa [HQ.out] using this, HG.out.2.2.2.2.2.2, HBel.out⟩, by have := HG.out.2.1; simp only [lenOf]; omega⟩
        · go_wp2
          exact ⟨⟨G, A5, n1 - (9 + m), c1 - (9 + m), a + m, true, rfl, by have := HG.out.2.2.1; omega, HRd.out, by first | rfl | rw [HA1.out], rfl, by have := HS.out; simp at this; omega, by have := HE.out; simpa using this, HG.out.2.2.2.2.2.2, HBel.out⟩, by have := HG.out.2.1; simp only [lenOf]; omega⟩
      · have kt : ((t : Int) = 0) = False := by simp; omega
        have kt' : (t = 0) = False := by simp; omega
        have HT := Lib.hid ht0
        go_wp2
        exact ⟨⟨G, A5, n1 - (9 + m), c1 - (9 + m), a, e, rfl, by have := HG.out.2.2.1; omega, HRd.out, by first | rfl | rw [HA1.out], rfl, by have := HS.out; rw [if_neg HT.out] at this; omega, by have := HE.out; rw [decide_eq_false HT.out] at this; simpa using this, HG.out.2.2.2.2.2.2, HBel.out⟩, by have := HG.out.2.1; simp only [lenOf]; omega⟩
end Go.Proofs.YtkpppjhbmnfmkaaGreatDoor
end

section
namespace Go.Proofs.YtkpppjhbmnfmkaaGreatDoor
open Go.RowKit Go.Own Go.Own.Im Go.Own.Cx Go.Own.Fr
/-- A stream that was told its end, of which k bytes were sent. -/
def pS (s : Sv) (k : Nat) : Sv := { s with outw := s.outw - k, waits := s.waits.drop k, own := if k = s.waits.length then 3 else 2 }
/-- An end behind it. -/
def pM (M : Cv) (s : Sv) (k : Nat) (F : List Fm) : Cv := { M with outw := M.outw - k, strs := [pS s k], out := M.out ++ fmsB F }
structure Rdy (M : Cv) (s : Sv) : Prop where
  strs : M.strs = [s]
  dead : M.dead = false
  id : 0 < s.id ∧ s.id ≤ 2147483647
  own : s.own = 2
  trails : s.trails = false
  held : s.held = 0
  other : s.other ≠ 3
theorem upd_one (s s' : Sv) (h : s.id = s'.id) : updS [s] s' = [s'] := by
  show [if s.id = s'.id then s' else s] = _
  rw [if_pos h]
theorem one_eq {M : Cv} {s s' : Sv} (h : M.strs = [s]) (h' : M.strs = [s']) : s' = s := by
  rw [h] at h'
  injection h' with h'
  exact h'.symm
theorem stop_still {M : Cv} {s : Sv} (h : M.strs = [s]) (hd : M.dead = false) (hid : s.id ≤ 2147483647) (hs : Still s) : Snd 0 M M :=
  .stop ⟨hd, s, h, hid⟩ fun w ow b L s' hc hs' => by
    obtain rfl := one_eq h hs'
    exact (sends_still w ow L.ob (L.s s'.id) s' _ (hc.p.strs s' (by rw [hs']; exact List.mem_singleton.2 rfl)) hs).mono fun e w' ⟨he, hw⟩ => ⟨ow, L, he, by rw [hw]; exact hc, by rw [hw]; exact Fr.refl w ow⟩
theorem ndp {M : Cv} {s : Sv} (h : M.strs = [s]) : (M.strs.map (·.id)).Nodup := by rw [h]; simp
theorem snd_all : ∀ (n : Nat) (M : Cv) (s : Sv), s.waits.length = n → Rdy M s → n ≤ 100000 → ∀ cw sw : Nat, M.outw = (cw : Int) → s.outw = (sw : Int) → cw ≤ 2000000 → sw ≤ 2000000 → M.out.length + 20 * n ≤ 900000000 →
    ∃ j F, Snd j M (pM M s (min n (min cw sw)) F) ∧ fmsN F = min n (min cw sw) ∧ fmsE F = decide (min n (min cw sw) = n) ∧ ∀ x ∈ F, x.ok := by
  intro n
  induction n using Nat.strongRecOn with
  | _ n ih =>
    intro M s hn hR hn2 cw sw hcw hsw hc2 hs2 ho
    have hmem : ∀ M' : Cv, M'.strs = [s] → s ∈ M'.strs := fun M' h => by rw [h]; exact List.mem_singleton.2 rfl
    rcases Nat.eq_zero_or_pos n with h0 | h0
    · -- only the end
      subst h0
      have hw : s.waits = [] := List.eq_nil_of_length_eq_zero hn
      refine ⟨1, [⟨0, 1, s.id, []⟩], .more ⟨hR.dead, s, hR.strs, hR.id.2⟩ (M1 := pM M s 0 [⟨0, 1, s.id, []⟩]) ?_ ?_ ?_, ?_, ?_, ?_⟩
      · intro w ow b L s' hc hs'
        obtain rfl := one_eq hR.strs hs'
        have h := sends_end w ow b M L s' hc (hmem M hR.strs) (ndp hR.strs) hR.id hR.own hR.trails hR.held hw (by omega)
        have e : finM (endedC M s') s' true = pM M s' 0 [⟨0, 1, s'.id, []⟩] := by
          unfold finM
          rw [if_pos rfl, if_neg hR.other]
          show ({ M with out := M.out ++ frameB 0 1 s'.id [], strs := updS M.strs { s' with own := 3 } } : Cv) = _
          rw [hR.strs, upd_one s' { s' with own := 3 } rfl]
          unfold pM pS
          rw [hw]
          simp [fmsB, Fm.b]
        rw [e] at h
        exact h
      · show M.out.length < (M.out ++ fmsB [⟨0, 1, s.id, []⟩]).length
        rw [List.length_append]
        simp [fmsB, Fm.b, frameB_len]
      · rw [Nat.zero_min]
        exact stop_still (s := pS s 0) rfl hR.dead hR.id.2 ⟨by unfold pS; rw [hw]; rfl, by unfold pS; rw [hn]; exact (show (3 : Nat) ≠ 2 by decide)⟩
      · rw [Nat.zero_min]; rfl
      · rw [Nat.zero_min]; simp [fmsE]
      · intro x hx
        rcases List.mem_singleton.1 hx with rfl
        exact ⟨Nat.zero_le _, (show 1 ≤ 255 by decide), hR.id.2, Nat.zero_le _⟩
    · obtain ⟨k, hk⟩ : ∃ k, min n (min cw sw) = k := ⟨_, rfl⟩
      rw [hk]
      obtain ⟨r, hr⟩ : ∃ r, min (min n 16384) (min cw sw) = r := ⟨_, rfl⟩
      have hprm : prm (min (n : Int) 16384) M.outw s.outw = (r : Int) := by rw [hcw, hsw]; unfold prm; omega
      rcases Nat.eq_zero_or_pos r with hz | hz
      · have hk0 : k = 0 := by omega
        subst hk0
        have e : pM M s 0 [] = M := by
          have e1 : pS s 0 = s := by
            unfold pS
            rw [if_neg (by omega), Int.natCast_zero, Int.sub_zero, List.drop_zero, ← hR.own]
          unfold pM
          rw [e1, ← hR.strs, Int.natCast_zero, Int.sub_zero, fmsB, List.append_nil]
        refine ⟨0, [], e.symm ▸ .stop ⟨hR.dead, s, hR.strs, hR.id.2⟩ fun w ow b L s' hc hs' => ?_, rfl, by rw [decide_eq_false (by omega)]; rfl, fun x hx => by cases hx⟩
        obtain rfl := one_eq hR.strs hs'
        exact (sends_zero w ow b M L s' n hc (hmem M hR.strs) hn h0 (by omega) (by rw [hprm, hz]; rfl)).mono fun e w' ⟨he, hw⟩ => ⟨ow, L, he, by rw [hw]; exact hc, by rw [hw]; exact Fr.refl w ow⟩
      · have hlr : (s.waits.take r).length = r := by rw [List.length_take]; omega
        by_cases hrn : r = n
        · have hkn : k = n := by omega
          subst hkn
          subst hrn
          have htk : s.waits.take r = s.waits := by rw [← hn]; exact List.take_length
          refine ⟨1, [⟨0, 1, s.id, s.waits.take r⟩], .more ⟨hR.dead, s, hR.strs, hR.id.2⟩ (M1 := pM M s r [⟨0, 1, s.id, s.waits.take r⟩]) ?_ ?_ ?_, ?_, ?_, ?_⟩
          · intro w ow b L s' hc hs'
            obtain rfl := one_eq hR.strs hs'
            have h := sends_data w ow b M L s' r r true hc (hmem M hR.strs) (ndp hR.strs) hR.id hR.own hR.trails hR.held hn (by omega) hprm hz (decide_eq_true rfl).symm (by rw [hcw]; omega) (by rw [hsw]; omega) (by omega)
            have e : finM (goneC M s' r true) (goneS s' r) true = pM M s' r [⟨0, 1, s'.id, s'.waits.take r⟩] := by
              unfold finM
              rw [if_pos rfl, if_neg (show ¬ (goneS s' r).other = 3 from hR.other)]
              show ({ M with outw := M.outw - r, out := M.out ++ frameB 0 1 s'.id (s'.waits.take r), strs := updS (updS M.strs (goneS s' r)) { goneS s' r with own := 3 } } : Cv) = _
              rw [hR.strs, upd_one s' (goneS s' r) rfl, upd_one (goneS s' r) { goneS s' r with own := 3 } rfl]
              unfold pM pS goneS
              rw [hn, if_pos rfl]
              simp [fmsB, Fm.b]
            rw [e] at h
            exact h
          · show M.out.length < (M.out ++ fmsB [⟨0, 1, s.id, s.waits.take r⟩]).length
            rw [List.length_append]
            simp [fmsB, Fm.b, frameB_len]
            omega
          · exact stop_still (s := pS s r) rfl hR.dead hR.id.2 ⟨by unfold pS; show s.waits.drop r = []; rw [← hn]; exact List.drop_length, by unfold pS; rw [hn, if_pos rfl]; exact (show (3 : Nat) ≠ 2 by decide)⟩
          · show (if (0 : Nat) = 0 then (s.waits.take r).length else 0) + 0 = r
            rw [if_pos rfl, hlr]
            rfl
          · simp [fmsE]
          · intro x hx
            rcases List.mem_singleton.1 hx with rfl
            exact ⟨Nat.zero_le _, (show 1 ≤ 255 by decide), hR.id.2, by show (s.waits.take r).length ≤ _; omega⟩
        · have hM1 : (goneC M s r false).strs = [goneS s r] := by
            show updS M.strs (goneS s r) = _
            rw [hR.strs, upd_one s (goneS s r) rfl]
          obtain ⟨j, F, h1, h2, h3, h4⟩ := ih (n - r) (by omega) (goneC M s r false) (goneS s r) (by show (s.waits.drop r).length = _; rw [List.length_drop, hn]) ⟨hM1, hR.dead, hR.id, hR.own, hR.trails, hR.held, hR.other⟩ (by omega) (cw - r) (sw - r) (by show M.outw - r = _; omega) (by show s.outw - r = _; omega) (by omega) (by omega) (by
            show (M.out ++ frameB 0 0 s.id (s.waits.take r)).length + _ ≤ _
            rw [List.length_append, frameB_len]
            omega)
          obtain ⟨k2, hk2⟩ : ∃ k2, min (n - r) (min (cw - r) (sw - r)) = k2 := ⟨_, rfl⟩
          rw [hk2] at h1 h2 h3
          have hkk : k = r + k2 := by omega
          have e : pM (goneC M s r false) (goneS s r) k2 F = pM M s k (⟨0, 0, s.id, s.waits.take r⟩ :: F) := by
            have e1 : pS (goneS s r) k2 = pS s k := by
              unfold pS goneS
              have x1 : s.outw - (r : Int) - (k2 : Int) = s.outw - (k : Int) := by omega
              have x2 : (s.waits.drop r).drop k2 = s.waits.drop k := by rw [List.drop_drop, hkk]
              have x3 : (if k2 = (s.waits.drop r).length then 3 else 2) = if k = s.waits.length then 3 else 2 := by
                rw [List.length_drop]
                by_cases h : k = s.waits.length
                · rw [if_pos h, if_pos (by omega)]
                · rw [if_neg h, if_neg (by omega)]
              simp only [x1, x2, x3]
            unfold pM
            rw [e1]
            have x1 : M.outw - (r : Int) - (k2 : Int) = M.outw - (k : Int) := by omega
            show ({ M with outw := M.outw - (r : Int) - (k2 : Int), strs := [pS s k], out := (M.out ++ frameB 0 0 s.id (s.waits.take r)) ++ fmsB F } : Cv) = _
            rw [x1, List.append_assoc]
            rfl
          have hsd : SdT M (goneC M s r false) true := by
            intro w ow b L s' hc hs'
            obtain rfl := one_eq hR.strs hs'
            exact sends_data w ow b M L s' n r false hc (hmem M hR.strs) (ndp hR.strs) hR.id hR.own hR.trails hR.held hn (by omega) hprm hz (decide_eq_false hrn).symm (by rw [hcw]; omega) (by rw [hsw]; omega) (by omega)
          have hgr : M.out.length < (goneC M s r false).out.length := by
            show M.out.length < (M.out ++ frameB 0 0 s.id (s.waits.take r)).length
            rw [List.length_append, frameB_len]
            omega
          have hS := Snd.more ⟨hR.dead, s, hR.strs, hR.id.2⟩ hsd hgr h1
          rw [e] at hS
          refine ⟨j + 1, ⟨0, 0, s.id, s.waits.take r⟩ :: F, hS, ?_, ?_, ?_⟩
          · show (if (0 : Nat) = 0 then (s.waits.take r).length else 0) + fmsN F = k
            rw [if_pos rfl, hlr, h2, hkk]
          · show ((decide ((0 : Nat) = 0) && decide (0 &&& 1 ≠ 0)) || fmsE F) = _
            rw [h3]
            by_cases h : k = n
            · rw [decide_eq_true h, decide_eq_true (show k2 = n - r by omega)]
              simp
            · rw [decide_eq_false h, decide_eq_false (show ¬ k2 = n - r by omega)]
              simp
          · intro x hx
            rcases List.mem_cons.1 hx with rfl | hx
            · exact ⟨Nat.zero_le _, Nat.zero_le _, hR.id.2, by show (s.waits.take r).length ≤ _; omega⟩
            · exact h4 x hx
end Go.Proofs.YtkpppjhbmnfmkaaGreatDoor
end

section
namespace Go.Proofs.YtkpppjhbmnfmkaaGreatDoor
open Go.RowKit Go.Own Go.Own.Im Go.Own.Cx Go.Own.Fr Go.Own.Hd
/-- A client that was told a window, behind its output. -/
def kB (w : Nat) : Cv := { setwM (newM 1 65535 0) w with evs := [], out := [] }
def kC (w : Nat) : Cv := opcM (kB w) false ix3n
def sC (w : Nat) : Sv := { id := 1, own := 1, inw := 65535, outw := w }
def sD (w n : Nat) : Sv := sentS (sC w) (List.replicate n 0) true
/-- Behind what was sent. -/
def kD (w n : Nat) : Cv := { kC w with strs := updS (kC w).strs (sD w n) }
theorem kC_at (w : Nat) : strAt (kC w) 1 = some (sC w) := rfl
theorem kD_strs (w n : Nat) : (kD w n).strs = [sD w n] := rfl
theorem sD_len (w n : Nat) : (sD w n).waits.length = n := by show ([] ++ List.replicate n (0 : UInt8)).length = n; simp
theorem kD_rdy (w n : Nat) : Rdy (kD w n) (sD w n) := ⟨rfl, rfl, ⟨by show 0 < 1; decide, by show 1 ≤ _; decide⟩, rfl, rfl, rfl, by show ¬ (0 = 3); decide⟩
theorem kD_out (w n : Nat) : (kD w n).out = fmsB [⟨1, 4, 1, ixB ix3n⟩] := rfl
/-- Behind the first output. -/
def kE (w n k : Nat) : Cv := { pM (kD w n) (sD w n) k [] with out := [] }
theorem kE_strs (w n k : Nat) : (kE w n k).strs = [pS (sD w n) k] := rfl
theorem pM_out (M : Cv) (s : Sv) (k : Nat) (F : List Fm) : ({ pM M s k F with out := [] } : Cv) = { pM M s k [] with out := [] } := rfl
/-- Behind the window that was given. -/
def sF (w n k g : Nat) : Sv := { pS (sD w n) k with outw := (pS (sD w n) k).outw + g }
def kF (w n k g : Nat) : Cv := { winM { kE w n k with evs := [] } (pS (sD w n) k) g with evs := [] }
theorem kF_strs (w n k g : Nat) : (kF w n k g).strs = [sF w n k g] := by
  show updS [pS (sD w n) k] (sF w n k g) = _
  exact upd_one _ _ rfl
theorem kE_at (w n k : Nat) : strAt (kE w n k) 1 = some (pS (sD w n) k) := rfl
theorem pS_wait (w n k : Nat) : (pS (sD w n) k).waits.length = n - k := by
  show ((sD w n).waits.drop k).length = _
  rw [List.length_drop, sD_len]
theorem kF_rdy (w n k g : Nat) (h : k ≠ n) : Rdy (kF w n k g) (sF w n k g) := ⟨kF_strs w n k g, rfl, ⟨by show 0 < 1; decide, by show 1 ≤ _; decide⟩, by
  show (if k = (sD w n).waits.length then 3 else 2) = 2
  rw [sD_len, if_neg h], rfl, rfl, by show ¬ (0 = 3); decide⟩
theorem runs_kF (w n k g : Nat) (hk : k ≤ w) (hw : w ≤ 65535) (h0 : 1 ≤ g) (hg : g ≤ 65536) : Runs 1 { kE w n k with evs := [], fed := (kE w n k).fed ++ frameB 8 0 1 (be g 4) } (fun M' => M' = winM { kE w n k with evs := [] } (pS (sD w n) k) g) :=
  runs_win (kE w n k) (pS (sD w n) k) g rfl rfl rfl rfl rfl rfl rfl ⟨by show 0 < 1; decide, by show 1 ≤ _; decide⟩ h0 hg ⟨by show 0 ≤ (w : Int) - (k : Int); omega, by show (w : Int) - (k : Int) ≤ 65535; omega⟩
theorem first_snd (w n : Nat) (hw : w ≤ 65535) (hn : n ≤ 65535) (k : Nat) (hk : min n (min 65535 w) = k) : ∃ j F, Snd j (kD w n) (pM (kD w n) (sD w n) k F) ∧ fmsN F = k ∧ fmsE F = decide (k = n) ∧ ∀ x ∈ F, x.ok := by
  have h := snd_all n (kD w n) (sD w n) (sD_len w n) (kD_rdy w n) (by omega) 65535 w rfl rfl (by decide) (by omega) (by rw [kD_out]; show (fmsB [⟨1, 4, 1, ixB ix3n⟩]).length + _ ≤ _; simp [fmsB, Fm.b, frameB_len, ixB, ix3n]; omega)
  rw [hk] at h
  exact h
theorem second_snd (w n k g : Nat) (hw : w ≤ 65535) (hn : n ≤ 65535) (hk : k ≤ w) (hkn : k < n) (hg : g ≤ 65536) (k2 : Nat) (hk2 : min (n - k) (min (65535 - k) (w - k + g)) = k2) : ∃ j F, Snd j (kF w n k g) (pM (kF w n k g) (sF w n k g) k2 F) ∧ fmsN F = k2 ∧ fmsE F = decide (k2 = n - k) ∧ ∀ x ∈ F, x.ok := by
  have h := snd_all (n - k) (kF w n k g) (sF w n k g) (pS_wait w n k) (kF_rdy w n k g (by omega)) (by omega) (65535 - k) (w - k + g) (by show (65535 : Int) - (k : Int) = _; omega) (by show (w : Int) - (k : Int) + (g : Int) = _; omega) (by omega) (by omega) (by show 0 + _ ≤ _; omega)
  rw [hk2] at h
  exact h
theorem sF_wait (w n k g k2 : Nat) : (pS (sF w n k g) k2).waits.length = n - k - k2 := by
  show ((sF w n k g).waits.drop k2).length = _
  rw [List.length_drop]
  show (pS (sD w n) k).waits.length - k2 = _
  rw [pS_wait]
end Go.Proofs.YtkpppjhbmnfmkaaGreatDoor
end
