/-
  The examples' other steps; what a caller's world must hold; how a caller's world stays. No program text is walked here.
  Contract: parleylaw8.first: the chapter's examples.
-/
import Derived.Test.YtkpppjhbmnfmkaaGreatDoorJs
import Derived.Test.YtkpppjhbmnfmkaaGreatDoorL1
import Derived.Test.YtkpppjhbmnfmkaaGreatDoorJt
set_option linter.unusedSimpArgs false
set_option linter.unusedVariables false
section
namespace Go.Proofs.YtkpppjhbmnfmkaaGreatDoor
open Go.RowKit Go.Own Go.Own.Im Go.Own.Cx Go.Own.Fr Go.Own.Hd
def s3 : Cv := { s2 with out := [] }
def s4 : Cv := refM s3 3
theorem runs2 : Runs 1 { s3 with evs := [], fed := s3.fed ++ frameB 1 5 3 b3 } (fun M' => M' = s4) := by
  refine .more rfl (step_takes _ _ 1 5 3 b3 [] rfl (by show frameB 1 5 3 b3 = _; rw [List.append_nil]) (by decide) (by decide) (by decide) (by decide) (flag5 ▸ takes_many s3 3 true b3 hs3 ix3 (by decide) rfl rfl rfl rfl rfl rfl (by decide) (by decide) (by decide))) fun M1 h1 => ?_
  subst h1
  exact .stop rfl ((step_few _ rfl (by show ([] : List UInt8).length < 9; decide)).mono fun M' h' => h')
def s5 : Cv := { s4 with out := [] }
def s6 : Cv := deadM s5 1
theorem runs3 : Runs 1 { s5 with evs := [], fed := s5.fed ++ frameB 0 0 9 [] } (fun M' => M' = s6) := by
  refine .more rfl (step_panics _ (fun M' => M' = s5) (fun M' => M' = s6) 0 0 9 1 0 [] [] rfl (by show frameB 0 0 9 [] = _; rw [List.append_nil]) (by decide) (by decide) (by decide) (by decide) (takes_idle s5 9 rfl rfl (by decide) (by decide) (by decide)) (fun M1 h1 => ?_)) fun M1 h1 => ?_
  · subst h1
    exact fault_dead s5 1 (by decide) (by decide) (by decide) (by decide)
  · subst h1
    exact .dead rfl rfl
/-- What a caller's world must hold. -/
structure EnvW (w : World) : Prop where
  room : 20 ≤ w.heap.size
  env : ∃ e1 e2 e3, H6.EnvH w e1 e2 e3
  ends : ∃ a c, a ≠ c ∧ w.cell? ⟨10, 0, none⟩ = some (.iface 327 (.pointer (some a))) ∧ w.cell? ⟨5, 0, none⟩ = some (.iface 327 (.pointer (some c))) ∧
    (∃ cs t, w.heap[a.block]? = some (.cells cs t (0, 0))) ∧ ∃ cs t, w.heap[c.block]? = some (.cells cs t (0, 0))
theorem EnvW.below {w w' : World} (h : EnvW w) (hb : Below w.heap.size w w') : EnvW w' := by
  have hk : ∀ i, i < 20 → w'.heap[i]? = w.heap[i]? := fun i hi => hb.block i (by have := h.room; omega)
  obtain ⟨e1, e2, e3, he⟩ := h.env
  obtain ⟨a, c, hne, h1, h2, ⟨ca, ta, ha⟩, cc, tc, hc⟩ := h.ends
  exact ⟨Nat.le_trans h.room hb.size, ⟨e1, e2, e3, he.kept hk (Nat.le_trans h.room hb.size)⟩, a, c, hne, (World.cell?_of_block (a := ⟨10, 0, none⟩) (hk _ (by decide))).trans h1, (World.cell?_of_block (a := ⟨5, 0, none⟩) (hk _ (by decide))).trans h2,
    ⟨ca, ta, (hb.block _ (Array.getElem?_eq_some_iff.1 ha).1).trans ha⟩, cc, tc, (hb.block _ (Array.getElem?_eq_some_iff.1 hc).1).trans hc⟩
theorem EnvW.of {w w' : World} {ow : Nat → Tg} (h : EnvW w) (hb : Below w.heap.size w w') (ho : ∀ g, g < w.heap.size → ow g = .no) : Env w' ow := by
  have hk : ∀ i, i < 20 → w'.heap[i]? = w.heap[i]? := fun i hi => hb.block i (by have := h.room; omega)
  have hz := Nat.le_trans h.room hb.size
  have hno : ∀ g, g < 20 → ow g = .no := fun g hg => ho g (by have := h.room; omega)
  obtain ⟨e1, e2, e3, he⟩ := h.env
  obtain ⟨a, c, hne, h1, h2, ⟨ca, ta, ha⟩, cc, tc, hc⟩ := h.ends
  have hla := (Array.getElem?_eq_some_iff.1 ha).1
  have hlc := (Array.getElem?_eq_some_iff.1 hc).1
  exact ⟨hz, hno, ⟨e1, e2, e3, he.kept hk hz⟩, a, c, hz, hno, hne, (World.cell?_of_block (a := ⟨10, 0, none⟩) (hk _ (by decide))).trans h1, (World.cell?_of_block (a := ⟨5, 0, none⟩) (hk _ (by decide))).trans h2,
    ⟨ca, ta, (hb.block _ hla).trans ha⟩, ⟨cc, tc, (hb.block _ hlc).trans hc⟩, ho _ hla, ho _ hlc⟩
theorem _root_.Go.Own.Cx.Fr.toBelow {w w1 w' : World} {ow ow' : Nat → Tg} (hb : Below w.heap.size w w1) (ho : ∀ g, g < w.heap.size → ow g = .no) (h : Fr w1 ow w' ow') : Below w.heap.size w w' :=
  ⟨h.os.trans hb.os, h.tape.trans hb.tape, h.output.trans hb.output, Nat.le_trans hb.size h.size, fun g hg => (h.keep g (Nat.lt_of_lt_of_le hg hb.size) (ho g hg)).trans (hb.block g hg)⟩
/-- A slice of bytes of one's own, new since w. -/
theorem _root_.Go.Own.Oz.tagged {w w' : World} {A : Option Addr} {n c : Nat} {l : List UInt8} {ow : Nat → Tg} (h : Oz w' (fun g => w.heap.size ≤ g) (.slice A n c) l) (hn : ∀ g, w.heap.size ≤ g → ow g = .no) : 0 < n → ∀ ad, A = some ad → ow ad.block = .no := fun hp ad ha => by
  obtain ⟨A', c', e, h1, _, h3⟩ := h
  injection e with e1 e2 e3
  obtain ⟨g, off, e4, ho, _⟩ := h3 (by omega)
  rw [← e1, ha] at e4
  injection e4 with e4
  rw [e4]
  exact hn g ho
theorem _root_.Go.Own.Ow.tagged {w' : World} {B : Nat} {e : TypeId} {A : Option Addr} {n c : Nat} {l : List UInt8} {ow : Nat → Tg} (h : Ow w' B e (.slice A n c) n l) (hn : ∀ g, B ≤ g → ow g = .no) : 0 < n → ∀ ad, A = some ad → ow ad.block = .no := fun hp ad ha => by
  rcases h.2 with ⟨e, h0⟩ | ⟨g, cap, cur, e, hb, _⟩
  · omega
  · injection e with e
    rw [ha] at e
    injection e with e
    rw [e]
    exact hn _ hb
end Go.Proofs.YtkpppjhbmnfmkaaGreatDoor
end

section
namespace Go.Proofs.YtkpppjhbmnfmkaaGreatDoor
open Go.RowKit Go.Own Go.Own.Im Go.Own.Cx Go.Own.Fr Go.Own.Hd
/-- The cells of an event that was handed out. -/
theorem ev_at {w : World} {B n j : Nat} {ad : Addr} {l : List EvV} {x : EvV} (h : Cm.RS evC 7 w B (some ad) n l) (hx : l[j]? = some x) :
    w.cell? (ad.add (j * 7)) = some (.int .i64 (x.kind : Nat)) ∧ w.cell? ⟨(ad.add (j * 7)).block, (ad.add (j * 7)).off + 1, none⟩ = some (.int .i64 (x.stream : Nat)) ∧ w.cell? ⟨(ad.add (j * 7)).block, (ad.add (j * 7)).off + 4, none⟩ = some (.bool x.fin) := by
  have hj : j < n := by rw [← h.1]; exact (List.getElem?_eq_some_iff.1 hx).1
  obtain ⟨ad', x', e, hx', h0, hr⟩ := h.at2 hj
  injection e with e
  subst e
  rw [hx] at hx'
  injection hx' with hx'
  subst hx'
  exact ⟨h0, hr 1 (.int .i64 (x.stream : Nat)) (by decide) rfl, hr 4 (.bool x.fin) (by decide) rfl⟩
theorem rd_b3 (w : World) : Rd (w.alloc (.cells #[.int .u8 131, .int .u8 134, .int .u8 132] 5)) (w.alloc (.cells #[.int .u8 131, .int .u8 134, .int .u8 132] 5)).heap.size (some ⟨w.heap.size, 0, none⟩) 3 b3 :=
  (show Ow (w.alloc (.cells #[.int .u8 131, .int .u8 134, .int .u8 132] 5)) w.heap.size 5 (.slice (some ⟨w.heap.size, 0, none⟩) 3 3) 3 b3 from Ow.lit w 5 b3 (by decide)).rd
set_option maxHeartbeats 16000000 in
set_option maxRecDepth 100000 in
theorem first_any (w : World) (hW : EnvW w) : Calls Tryz.prog 8 #[] w fun e w' => e = .returned (.bool true) ∧ Below w.heap.size w w' := by
  have HE := Lib.hid hW
  have HN := Lib.hid (new2_any w 65535 1 (by decide) (by decide))
  clear hW
  go_enter Tryz.func8, Tryz.ntmps8
  go_wp2_with fail
  refine HN.out.mono ?_
  rintro e w1 ⟨b, ow1, L1, rfl, hc1, hb1, ho1⟩
  have HB1 := Lib.hid hb1
  have HC1 := Lib.hid hc1
  have HO1 := Lib.hid ho1
  clear hc1 hb1 ho1 HN
  go_wp2_with fail
  refine (output_still w1 ow1 b _ L1 HC1.out List.Pairwise.nil (by decide) (fun s hs => by cases hs) (.inr fun s hs => by cases hs)).mono ?_
  rintro e w2 ⟨A2, c2, ow2, L2, rfl, hle2, hr2, ht2, hc2, hf2⟩
  have HR2 := Lib.hid hr2
  have HC2 := Lib.hid (show CN w2 ow2 b s1 L2 from hc2)
  have HF2 := Lib.hid hf2
  clear hle2 hr2 ht2 hc2 hf2
  go_wp2_with fail
  refine (begins2_any w2 65535 1 (by decide) (by decide)).mono ?_
  rintro e w3 ⟨A3, n3, c3, rfl, hr3, hb3⟩
  have HR2a := Lib.hid (HR2.out.below hb3)
  have HR3 := Lib.hid hr3
  have HC3 := Lib.hid (HC2.out.below hb3)
  have HF3 := Lib.hid (HF2.out.trans (Fr.below hb3 ow2))
  clear hr3 hb3 HC2 HF2 HR2
  go_wp2_with fail
  refine (sameBytes_any A2 A3 _ n3 c2 c3 _ _ w3 _ _ HR2a.out HR3.out).mono ?_
  rintro e w4 ⟨rfl, hw⟩
  subst w4
  rw [show decide ((newM 2 65535 1).out = (newM 2 65535 1).out) = true from decide_eq_true rfl]
  clear HR2a HR3
  go_wp2_with fail
  refine (hello2_any w3).mono ?_
  rintro e w4 ⟨A4, c4, rfl, hz4, hb4⟩
  have HZ4 := Lib.hid hz4
  have HB4 := Lib.hid hb4
  clear hz4 hb4
  have HR4 := Lib.hid (rd_b3 w4)
  have HBx := Lib.hid ((Below.refl w4.heap.size w4).alloc (Nat.le_refl _) (.cells #[.int .u8 131, .int .u8 134, .int .u8 132] 5))
  go_wp2_with fail
  generalize w4.alloc (.cells #[.int .u8 131, .int .u8 134, .int .u8 132] 5) = W4 at *
  refine (lawFrame_any (some ⟨w4.heap.size, 0, none⟩) 3 3 1 5 1 W4.heap.size b3 W4 HR4.out (Nat.le_refl _) (by decide) (by decide) (by decide) (by decide)).mono ?_
  rintro e w5 ⟨A5, c5, rfl, ho5, hb5⟩
  have HB45 := Lib.hid (HBx.out.trans (hb5.mono HBx.out.size))
  have HZ5 := Lib.hid (HZ4.out.keep (fun g hg _ => HB45.out.block g hg) HB45.out.size)
  have HR5 := Lib.hid ho5.rd
  have HB5 := Lib.hid (HB4.out.trans (HB45.out.mono HB4.out.size))
  have hbnd : (prefB ++ frameB 4 0 0 []).length + (9 + 3) ≤ 140737488355328 := by decide
  clear ho5 hb5
  go_wp2_with (first
    | (refine wpList_app_z byteP _ rfl (.tmp 29) (.tmp 31) rfl (fun g => w3.heap.size ≤ g) (.slice A4 33 c4) (prefB ++ frameB 4 0 0 []) rfl HZ5.out w5.heap.size A5 (9 + 3) c5 (frameB 1 5 1 b3) rfl HR5.out hbnd ?_
       intro A6 c6 w6 row6 hO6 hg6 hr6
       have HO6 := Lib.hid (hO6.owned (own' := fun g => w3.heap.size ≤ g) (fun g _ h => by rcases h with h | ⟨_, h⟩; exact h; rw [h]; exact HB5.out.size))
       have HB6 := Lib.hid (HB5.out.grown hg6 HB5.out.size (fun g e => (hr6 g e).1))
       clear hO6 hg6 hr6)
    | fail)
  have HC6 := Lib.hid (HC3.out.below HB6.out)
  have HF6 := Lib.hid (HF3.out.trans (Fr.below HB6.out ow2))
  have HE6 := Lib.hid ((HE.out.of HB1.out HO1.out).fr HF6.out)
  refine (feed_any w6 ow2 b s1 L2 _ 26 A6 _ c6 _ HE6.out HC6.out HO6.out.rd (HO6.out.tagged HC3.out.new) rfl hbnd runs1).mono ?_
  rintro e w7 ⟨M7, A7, c7, ow7, L7, ⟨A, c, rfl⟩, rfl, hle7, hc7, hf7, hrs7, _, _⟩
  rw [show (m5 A c).evs.length = 2 from rfl] at hrs7 hle7 ⊢
  have HC7 := Lib.hid (show CN w7 ow7 b s2 L7 from hc7)
  have HF7 := Lib.hid (HF6.out.trans hf7)
  have HR7 := Lib.hid hrs7
  obtain ⟨ad, _, rfl, _⟩ := hrs7.at2 (j := 0) (by decide)
  have k00 : w7.cell? ad = some (.int .i64 7) := (ev_at hrs7 (j := 0) (x := { kind := 7 }) rfl).1
  have k1 := ev_at hrs7 (j := 1) (x := { kind := 1, stream := 1, fin := true, la := A, lc := c, l := hs3 }) rfl
  have k10 : w7.cell? ⟨ad.block, ad.off + 7, none⟩ = some (.int .i64 1) := k1.1
  have k11 : w7.cell? ⟨ad.block, ad.off + 7 + 1, none⟩ = some (.int .i64 1) := k1.2.1
  have k11' : w7.cell? ⟨ad.block, ad.off + 8, none⟩ = some (.int .i64 1) := k1.2.1
  have k14 : w7.cell? ⟨ad.block, ad.off + 7 + 4, none⟩ = some (.bool true) := k1.2.2
  have k14' : w7.cell? ⟨ad.block, ad.off + 11, none⟩ = some (.bool true) := k1.2.2
  clear k1
  clear hc7 hf7 hrs7 HC6 HF6 HE6 HO6 HB6 HZ5 HR5 HB5 HB45 HBx HR4 HZ4 HB4 HC3 HF3
  have hsrt : (s2.strs.map (·.id)).Pairwise (· < ·) := by decide
  have hids : ∀ s ∈ s2.strs, s.id ≤ 2147483647 := by decide
  have hstl : ∀ s ∈ s2.strs, Still s := by
    intro s hs
    have : s = endS { id := 1, other := 1, inw := 65535, outw := 65535 } true := by
      have h1 : s ∈ [endS { id := 1, other := 1, inw := 65535, outw := 65535 } true] := hs
      simpa using h1
    rw [this]
    exact ⟨rfl, by decide⟩
  go_wp2_with fail
  clear k00 k10 k11 k11' k14 k14'
  refine (output_still w7 ow7 b _ L7 HC7.out hsrt (by decide) hids (.inr hstl)).mono ?_
  rintro e w8 ⟨A8, c8, ow8, L8, rfl, hle8, hr8, ht8, hc8, hf8⟩
  have HR8 := Lib.hid (show Rd w8 w8.heap.size A8 9 (frameB 4 1 0 []) from hr8)
  have HC8 := Lib.hid (show CN w8 ow8 b s3 L8 from hc8)
  have HF8 := Lib.hid (HF7.out.trans hf8)
  clear hle8 hr8 ht8 hc8 hf8 HF7 HC7 HR7
  go_wp2_with fail
  refine (lawAck_any w8).mono ?_
  rintro e w9 ⟨A9, c9, rfl, ho9, hb9⟩
  have HR8a := Lib.hid (HR8.out.below hb9)
  have HR9 := Lib.hid ho9.rd
  have HC9 := Lib.hid (HC8.out.below hb9)
  have HF9 := Lib.hid (HF8.out.trans (Fr.below hb9 ow8))
  clear ho9 hb9 HF8 HC8 HR8
  go_wp2_with fail
  refine (sameBytes_any A8 A9 9 9 c8 c9 _ _ w9 _ _ HR8a.out HR9.out).mono ?_
  rintro e w10 ⟨rfl, hw⟩
  subst w10
  rw [show decide (frameB 4 1 0 [] = frameB 4 1 0 []) = true from decide_eq_true rfl]
  clear HR8a HR9
  have HR10 := Lib.hid (rd_b3 w9)
  have HBy := Lib.hid ((Below.refl w9.heap.size w9).alloc (Nat.le_refl _) (.cells #[.int .u8 131, .int .u8 134, .int .u8 132] 5))
  go_wp2_with fail
  generalize w9.alloc (.cells #[.int .u8 131, .int .u8 134, .int .u8 132] 5) = W9 at *
  refine (lawFrame_any (some ⟨w9.heap.size, 0, none⟩) 3 3 1 5 3 W9.heap.size b3 W9 HR10.out (Nat.le_refl _) (by decide) (by decide) (by decide) (by decide)).mono ?_
  rintro e w11 ⟨A11, c11, rfl, ho11, hb11⟩
  have HB11 := Lib.hid (HBy.out.trans (hb11.mono HBy.out.size))
  have HO11 := Lib.hid (ho11.base HBy.out.size)
  have HC11 := Lib.hid (HC9.out.below HB11.out)
  have HF11 := Lib.hid (HF9.out.trans (Fr.below HB11.out ow8))
  have HE11 := Lib.hid ((HE.out.of HB1.out HO1.out).fr HF11.out)
  clear ho11 hb11
  go_wp2_with fail
  refine (feed_any w11 ow8 b s3 L8 _ 1 A11 _ c11 _ HE11.out HC11.out HO11.out.rd (HO11.out.tagged HC9.out.new) rfl (by show 0 + (9 + 3) ≤ _; decide) runs2).mono ?_
  rintro e w12 ⟨M12, A12, c12, ow12, L12, rfl, rfl, hle12, hc12, hf12, _, _, _⟩
  rw [show s4.evs.length = 0 from rfl]
  have HC12 := Lib.hid (show CN w12 ow12 b s4 L12 from hc12)
  have HF12 := Lib.hid (HF11.out.trans hf12)
  clear hle12 hc12 hf12 HC11 HF11 HE11 HO11 HB11 HBy HR10 HC9 HF9
  go_wp2_with fail
  refine (output_still w12 ow12 b _ L12 HC12.out hsrt (by decide) hids (.inr hstl)).mono ?_
  rintro e w13 ⟨A13, c13, ow13, L13, rfl, hle13, hr13, ht13, hc13, hf13⟩
  have HR13 := Lib.hid (show Rd w13 w13.heap.size A13 13 (frameB 3 0 3 (be 7 4)) from hr13)
  have HC13 := Lib.hid (show CN w13 ow13 b s5 L13 from hc13)
  have HF13 := Lib.hid (HF12.out.trans hf13)
  rw [show s4.out.length = 13 from rfl]
  clear hle13 hr13 ht13 hc13 hf13 HF12 HC12
  go_wp2_with fail
  refine (lawNumber_any 7 w13 (by decide)).mono ?_
  rintro e w14 ⟨rfl, hr14, hb14⟩
  have hlt14 : w13.heap.size < w14.heap.size := by
    obtain ⟨ad2, e2, hlt, hc⟩ := hr14.2 (by decide)
    injection e2 with e2
    subst e2
    exact (World.block_lt_of_cell? w14 _ (hc 0 (by decide)))
  have HR14 := Lib.hid (hr14.more hlt14)
  have HB14 := Lib.hid hb14
  clear hr14 hb14 hlt14
  go_wp2_with fail
  refine (lawFrame_any (some ⟨w13.heap.size, 0, none⟩) 4 4 3 0 3 w14.heap.size (be 7 4) w14 HR14.out (Nat.le_refl _) (by decide) (by decide) (by decide) (by decide)).mono ?_
  rintro e w15 ⟨A15, c15, rfl, ho15, hb15⟩
  have HB15 := Lib.hid (HB14.out.trans (hb15.mono HB14.out.size))
  have HR15 := Lib.hid ho15.rd
  have HR13a := Lib.hid (HR13.out.below HB15.out)
  have HC15 := Lib.hid (HC13.out.below HB15.out)
  have HF15 := Lib.hid (HF13.out.trans (Fr.below HB15.out ow13))
  clear ho15 hb15 HB14 HR14 HR13 HC13 HF13 HB15
  go_wp2_with fail
  refine (sameBytes_any A13 A15 13 13 c13 c15 _ _ w15 _ _ HR13a.out HR15.out).mono ?_
  rintro e w16 ⟨rfl, hw⟩
  subst w16
  rw [show decide (frameB 3 0 3 (be 7 4) = frameB 3 0 3 (be 7 4)) = true from decide_eq_true rfl]
  clear HR13a HR15
  go_wp2_with fail
  refine (lawFrame_any none 0 0 0 0 9 w15.heap.size [] w15 ⟨rfl, fun h => absurd h (by omega)⟩ (Nat.le_refl _) (by decide) (by decide) (by decide) (by decide)).mono ?_
  rintro e w17 ⟨A17, c17, rfl, ho17, hb17⟩
  have HO17 := Lib.hid ho17
  have HC17 := Lib.hid (HC15.out.below hb17)
  have HF17 := Lib.hid (HF15.out.trans (Fr.below hb17 ow13))
  have HE17 := Lib.hid ((HE.out.of HB1.out HO1.out).fr HF17.out)
  clear ho17 hb17
  go_wp2_with fail
  refine (feed_any w17 ow13 b s5 L13 _ 1 A17 _ c17 _ HE17.out HC17.out HO17.out.rd (HO17.out.tagged HC15.out.new) rfl (by show 0 + (9 + 0) ≤ _; decide) runs3).mono ?_
  rintro e w18 ⟨M18, A18, c18, ow18, L18, rfl, rfl, hle18, hc18, hf18, hrs18, _, _⟩
  rw [show s6.evs.length = 1 from rfl] at hrs18 ⊢
  obtain ⟨ad3, _, rfl, _⟩ := hrs18.at2 (j := 0) (by decide)
  have k00 : w18.cell? ad3 = some (.int .i64 8) := (ev_at hrs18 (j := 0) (x := { kind := 8, code := 1 }) rfl).1
  have HC18 := Lib.hid hc18
  have HF18 := Lib.hid (HF17.out.trans hf18)
  have HK := Lib.hid k00
  clear hle18 hc18 hf18 hrs18 k00 HC17 HF17 HE17 HO17 HC15 HF15
  go_wp2_with fail
  refine (dead_any w18 ow18 b _ L18 HC18.out).mono ?_
  rintro e w19 ⟨rfl, m, rfl⟩
  have k00 : (w18.drewN m).cell? ad3 = some (.int .i64 8) := HK.out
  rw [show ((({ s6 with evs := [] } : Cv).code : Nat) : Int) = 1 from rfl, show ({ s6 with evs := [] } : Cv).dead = true from rfl]
  go_wp2
  go_ret
  exact ⟨rfl, (HF18.out.trans (Fr.drewN w18 ow18 m)).toBelow HB1.out HO1.out⟩
end Go.Proofs.YtkpppjhbmnfmkaaGreatDoor
end
