/-
  The walk of ConnData.
-/
import Derived.Test.YtdkfbkjmhgbppaaGreatDoorKe
import Derived.Test.YtdkfbkjmhgbppaaGreatDoorJz
import Derived.Test.YtdkfbkjmhgbppaaGreatDoorL6
import Derived.Test.YtdkfbkjmhgbppaaGreatDoorJw
import Derived.Test.YtdkfbkjmhgbppaaGreatDoorKa
import Derived.Test.YtdkfbkjmhgbppaaGreatDoorKc
import Derived.BigQuiet
import Derived.Deep.RegionHeld3
set_option linter.unusedSimpArgs false
set_option linter.unusedVariables false
namespace Go.Proofs.YtdkfbkjmhgbppaaGreatDoor
open Go.RowKit Go.Own Go.Own.Im Go.Own.Cx Go.Own.Fr Go.Own.Hd
theorem one_mem {M : Cv} {s : Sv} (h : M.strs = [s]) {P : Sv → Prop} (hp : P s) : ∀ x ∈ M.strs, P x := by
  intro x hx
  rw [h] at hx
  rw [List.mem_singleton.1 hx]
  exact hp
theorem oz_one (W : World) (p : Nat) (h : p ≤ 63) : Oz (W.alloc (.cells #[.int .u8 (p : Int)] 5)) (fun g => W.heap.size ≤ g) (.slice (some ⟨W.heap.size, 0, none⟩) 1 1) [UInt8.ofNat p] := by
  have e : (([UInt8.ofNat p].map bv).toArray : Array Value) = #[.int .u8 (p : Int)] := by
    show #[Value.int .u8 ((UInt8.ofNat p).toNat : Int)] = _
    rw [pad_nat p h]
  have h1 := Ow.lit W 5 [UInt8.ofNat p] (show 1 ≤ 1000 by decide)
  rw [e] at h1
  exact Oz.of_ow h1 (fun g e => by have e : some W.heap.size = some g := e; injection e with e; omega)
theorem dwait (w : World) (ow : Nat → Tg) (b : Nat) (M : Cv) (s : Sv) (L : Lay) (n : Nat) (h : CN w ow b M L) (hs : strAt M 1 = some s) (hn : s.held = n) :
    Calls Tryz.prog 18 #[.pointer (some ⟨b, 0, none⟩), .int .i64 1] w fun e w' => e = .returned (.int .i64 (n : Nat)) ∧ w' = w := by
  refine (held_any w ow b M L 1 h (by decide)).mono ?_
  rintro e w' ⟨rfl, hw⟩
  refine ⟨?_, hw⟩
  rw [hs]
  show Ending.returned (.int .i64 (s.held : Nat)) = _
  rw [hn]
theorem wf1d : (Lit.int .i64 (1 : Int)).wf = true := by decide
theorem num_rd (n : Nat) (w : World) (hn : n < 4294967296) :
    Calls Tryz.prog 16 #[.int .i64 (n : Nat)] w fun e w' => e = .returned (.slice (some ⟨w.heap.size, 0, none⟩) 4 4) ∧ Rd w' w'.heap.size (some ⟨w.heap.size, 0, none⟩) 4 (be n 4) ∧ Below w.heap.size w w' := by
  refine (lawNumber_any n w hn).mono ?_
  rintro e w9 ⟨rfl, hr9, hb9⟩
  have hlt9 : w.heap.size < w9.heap.size := by
    obtain ⟨ad2, e2, hlt, hc⟩ := hr9.2 (by decide)
    injection e2 with e2
    subst e2
    exact (World.block_lt_of_cell? w9 _ (hc 0 (by decide)))
  exact ⟨rfl, hr9.more hlt9, hb9⟩
theorem oz_fed2 {w w' : World} {ow ow' : Nat → Tg} {B : Nat} {v : Value} {l : List UInt8} (h : Oz w (fun g => B ≤ g ∧ ow g = .no) v l) (hf : Fr w ow w' ow') : Oz w' (fun g => B ≤ g ∧ ow' g = .no) v l :=
  h.turn (fun g hlt ho => ⟨hf.keep g hlt ho.2, ho.1, hf.no g hlt ho.2⟩) hf.size
theorem fr_grownNew {w w1 w2 : World} {ow ow1 : Nat → Tg} {row : Option Nat} (h : Fr w ow w1 ow1) (hg : w1.grownBy w2 row) (hr : ∀ g, row = some g → w.heap.size ≤ g) : Fr w ow w2 ow1 :=
  ⟨hg.os.trans h.os, hg.tape.trans h.tape, hg.output.trans h.output, Nat.le_trans h.size hg.size, fun g hlt ho => (hg.block g (Nat.lt_of_lt_of_le hlt h.size) (fun e => by have := hr g e.symm; omega)).trans (h.keep g hlt ho), h.no⟩
theorem cn_aside {w w2 : World} {ow : Nat → Tg} {b : Nat} {M : Cv} {L : Lay} {row : Option Nat} (h : CN w ow b M L) (hg : w.grownBy w2 row) (hr : ∀ g, row = some g → ow g = .no) : CN w2 ow b M L :=
  h.keep hg.size fun g hn hlt => hg.block g hlt (fun e => hn (hr g e.symm))
/-- The event that was handed out, where it lies. -/
structure EvAt (w : World) (ow : Nat → Tg) (ad : Addr) (fin : Bool) (A : Option Addr) (n c : Nat) (l : List UInt8) : Prop where
  a0 : w.cell? ad = some (.int .i64 2)
  a1 : w.cell? ⟨ad.block, ad.off + 1, none⟩ = some (.int .i64 1)
  a4 : w.cell? ⟨ad.block, ad.off + 4, none⟩ = some (.bool fin)
  a6 : w.cell? ⟨ad.block, ad.off + 6, none⟩ = some (.slice A n c)
  rd : Rd w w.heap.size A n l
  no : ow ad.block = .no
  nr : 0 < n → ∀ g, A = some g → ow g.block = .no
theorem EvAt.fr {w w' : World} {ow ow' : Nat → Tg} {ad : Addr} {fin : Bool} {A : Option Addr} {n c : Nat} {l : List UInt8} (h : EvAt w ow ad fin A n c l) (hf : Fr w ow w' ow') : EvAt w' ow' ad fin A n c l := by
  have hlt := World.block_lt_of_cell? w _ h.a0
  have hk := hf.keep ad.block hlt h.no
  refine ⟨(World.cell?_of_block (a := ad) hk).trans h.a0, (World.cell?_of_block (a := ⟨ad.block, ad.off + 1, none⟩) hk).trans h.a1, (World.cell?_of_block (a := ⟨ad.block, ad.off + 4, none⟩) hk).trans h.a4, (World.cell?_of_block (a := ⟨ad.block, ad.off + 6, none⟩) hk).trans h.a6,
    (hf.rd h.rd (Nat.le_refl _) h.nr).more hf.size, hf.no _ hlt h.no, fun hp g e => ?_⟩
  obtain ⟨g2, e2, hb, _⟩ := h.rd.2 hp
  rw [e] at e2
  injection e2 with e2
  subst e2
  exact hf.no _ hb (h.nr hp g e)
theorem EvAt.of {w : World} {ow : Nat → Tg} {ad : Addr} {fin : Bool} {A : Option Addr} {n c B : Nat} {l : List UInt8} (hn : l.length = n) (h : Cm.RS evC 7 w B (some ad) 1 [dEv l fin A c]) (hno : ow ad.block = .no) (hr : EvR w ow (dEv l fin A c)) : EvAt w ow ad fin A n c l := by
  obtain ⟨a0, a1, _, _, a4, _, a6⟩ := ev_all (j := 0) (x := dEv l fin A c) h rfl
  subst hn
  exact ⟨a0, a1, a4, a6, hr.byt.2.1, hno, hr.byt.2.2⟩
theorem date_ok (w : World) (ow : Nat → Tg) (b : Nat) (l : List UInt8) (pad : Nat) (fin : Bool) (L : Lay) (n : Nat) (h : CN w ow b (d2 l pad fin) L) (hl : l.length ≤ 8000) (hp : pad ≤ 63) (h0 : 0 < n) (hn : n ≤ l.length) :
    Calls Tryz.prog 19 #[.pointer (some ⟨b, 0, none⟩), .int .i64 1, .int .i64 (n : Nat)] w (CPost w ow b (d3 l pad fin n) .nilIface) := by
  have hid := s1_id l pad fin
  have h1 := s1_inw l pad fin hl hp
  have h2 := d2_inw l pad fin hl hp
  have hh := s1_held l pad fin
  have ha : strAt (d2 l pad fin) ((s1' l pad fin).id : Int) = some (s1' l pad fin) := by rw [hid]; exact at_one (d2_strs l pad fin) hid
  have h3 := ate_ok w ow b (d2 l pad fin) L (s1' l pad fin) n h rfl ha (by rw [hid]; decide) h0 (by rw [hh]; exact hn) (by rw [hh]; omega) ⟨h2.1, by omega⟩ ⟨h1.1, by omega⟩ (Nat.zero_le _)
  rw [hid] at h3
  exact h3
set_option maxHeartbeats 16000000 in
set_option maxRecDepth 100000 in
/-- Too much to be looked at. -/
theorem data_much (w : World) (hW : EnvW w) (pad n : Int) (fin : Bool) (Ab : Option Addr) (nb cb : Nat) (h : 8000 < nb) :
    Calls Tryz.prog 3 #[.slice Ab nb cb, .int .i64 pad, .bool fin, .int .i64 n] w fun e w' => e = .returned (.bool true) ∧ Below w.heap.size w w' := by
  have HF := Lib.hid (first_any w hW)
  have k1 : ((8000 : Int) < (nb : Int)) = True := by simp; omega
  clear hW h
  go_enter Tryz.func3, Tryz.ntmps3
  go_wp2_with fail
  refine HF.out.mono ?_
  rintro e w1 ⟨rfl, hb1⟩
  have HB1 := Lib.hid hb1
  clear hb1
  go_wp2
  go_ret
  exact ⟨rfl, HB1.out⟩
set_option maxHeartbeats 16000000 in
set_option maxRecDepth 100000 in
theorem data_false0 (w : World) {a1 a2 : Addr} (hE : EnvS w a1 a2) (pad : Int) (p : Nat) (hp : bits .and .i64 pad 63 = (p : Int)) (hp63 : p ≤ 63) (n : Int) (hwn : (Lit.int .i64 n).wf = true) (Ab : Option Addr) (nb cb : Nat) (lb : List UInt8) (hb : Rd w w.heap.size Ab nb lb) (h1 : nb ≤ 8000) (hz : nb = 0) :
    Calls Tryz.prog 3 #[.slice Ab nb cb, .int .i64 pad, .bool false, .int .i64 n] w fun e w' => e = .returned (.bool true) ∧ Below w.heap.size w w' := by
  have HE := Lib.hid hE
  have HF := Lib.hid (first_any w hE.wd)
  have HR := Lib.hid hb
  have HWn := Lib.hid hwn
  have HZ := Lib.hid hz
  have HH := Lib.hid (show _ ∧ _ ∧ _ from ⟨hp63, h1, hb.1⟩)
  have k1 : ((8000 : Int) < (nb : Int)) = False := by simp; omega
  have hee2 := eql_same a2
  have hcv : IntKind.u8.wrap (p : Int) = (p : Int) := by rw [IntKind.wrap_u8]; omega
  have HOne := Lib.hid (fun W => oz_one W p hp63)
  clear hE hb hp63 h1 hwn hz
  go_enter Tryz.func3, Tryz.ntmps3
  go_wp2_with fail
  refine HF.out.mono ?_
  rintro e w1 ⟨rfl, hb1⟩
  have HB1 := Lib.hid hb1
  clear hb1
  go_wp2_with fail
  refine (new2_any w1 65535 10 (by decide) (by decide)).mono ?_
  rintro e w2 ⟨b, ow2, L2, rfl, hc2, hb2, ho2⟩
  have HB2 := Lib.hid (HB1.out.trans (hb2.mono HB1.out.size))
  have HC2 := Lib.hid hc2
  have HO2 := Lib.hid (show ∀ g, g < w.heap.size → ow2 g = .no from fun g hg => ho2 g (Nat.lt_of_lt_of_le hg HB1.out.size))
  have HEw2 := Lib.hid ((HE.out.below HB1.out).wd.of hb2 ho2)
  clear hb2 hc2 ho2 k1
  go_wp2_with fail
  refine (hello2_any w2).mono ?_
  rintro e w4 ⟨A4, c4, rfl, hz4, hb4⟩
  have HZ4 := Lib.hid hz4
  have HB4 := Lib.hid hb4
  clear hz4 hb4
  have HR4 := Lib.hid (rd_b3 w4)
  have HBx := Lib.hid ((Below.refl w4.heap.size w4).alloc (Nat.le_refl _) (.cells #[.int .u8 131, .int .u8 134, .int .u8 132] 5))
  go_wp2_with fail
  generalize w4.alloc (.cells #[.int .u8 131, .int .u8 134, .int .u8 132] 5) = W4 at *
  refine (lawFrame_any (some ⟨w4.heap.size, 0, none⟩) 3 3 1 4 1 W4.heap.size b3 W4 HR4.out (Nat.le_refl _) (by decide) (by decide) (by decide) (by decide)).mono ?_
  rintro e w5 ⟨A5, c5, rfl, ho5, hb5⟩
  have HB45 := Lib.hid (HBx.out.trans (hb5.mono HBx.out.size))
  have HZ5 := Lib.hid (HZ4.out.keep (fun g hg _ => HB45.out.block g hg) HB45.out.size)
  have HR5 := Lib.hid ho5.rd
  have HB5 := Lib.hid (HB4.out.trans (HB45.out.mono HB4.out.size))
  have hbnd : (prefB ++ frameB 4 0 0 []).length + (9 + 3) ≤ 140737488355328 := by decide
  clear ho5 hb5
  go_wp2_with (first
    | (refine wpList_app_z byteP _ rfl (.tmp 34) (.tmp 36) rfl (fun g => w2.heap.size ≤ g) (.slice A4 33 c4) (prefB ++ frameB 4 0 0 []) rfl HZ5.out w5.heap.size A5 (9 + 3) c5 (frameB 1 4 1 b3) rfl HR5.out hbnd ?_
       intro A6 c6 w6 row6 hO6 hg6 hr6
       have HO6 := Lib.hid (hO6.owned (own' := fun g => w2.heap.size ≤ g) (fun g _ h => by rcases h with h | ⟨_, h⟩; exact h; rw [h]; exact HB5.out.size))
       have HB6 := Lib.hid (HB5.out.grown hg6 HB5.out.size (fun g e => (hr6 g e).1))
       clear hO6 hg6 hr6)
    | fail)
  have HC6 := Lib.hid (HC2.out.below HB6.out)
  have HF6 := Lib.hid (Fr.below HB6.out ow2)
  have HE6 := Lib.hid (HEw2.out.fr HF6.out)
  refine (feed_any w6 ow2 b (newM 2 65535 10) L2 _ 26 A6 _ c6 _ HE6.out HC6.out HO6.out.rd (HO6.out.tagged HC2.out.new) rfl hbnd runs_d5).mono ?_
  rintro e w7 ⟨M7, A7, c7, ow7, L7, ⟨A, c, rfl⟩, rfl, hle7, hc7, hf7, _, _, _⟩
  rw [show (d5 A c).evs.length = 2 from rfl]
  have HC7 := Lib.hid (show CN w7 ow7 b { d5 none 0 with evs := [] } L7 from hc7)
  have HF7 := Lib.hid (HF6.out.trans hf7)
  clear hle7 hc7 hf7 HC6 HF6 HE6 HO6 HB6 HZ5 HR5 HB5 HB45 HBx HR4 HZ4 HB4 HC2 hbnd
  go_wp2_with fail
  refine (output_still w7 ow7 b _ L7 HC7.out (srt_one (s := s0) rfl) (show 1 ≤ 1000000 by decide) (one_mem (s := s0) rfl (by decide)) (.inr (one_mem (s := s0) rfl ⟨rfl, by decide⟩))).mono ?_
  rintro e w8 ⟨A8, c8, ow8, L8, rfl, _, _, _, hc8, hf8⟩
  have HC8 := Lib.hid (show CN w8 ow8 b d0 L8 from hc8)
  have HF8 := Lib.hid (HF7.out.trans hf8)
  have HBb := Lib.hid (HF8.out.toBelow HB2.out HO2.out)
  have HRb := Lib.hid ((HR.out.below HBb.out).more HBb.out.size)
  generalize ({ d5 none 0 with evs := [] } : Cv).out.length = n8
  clear hc8 hf8 HC7 HF7
  have HO8 := Lib.hid (HOne.out w8)
  have HB8 := Lib.hid ((Below.refl w8.heap.size w8).alloc (Nat.le_refl _) (.cells #[.int .u8 (p : Int)] 5))
  have HRc := Lib.hid ((HRb.out.below HB8.out).more HB8.out.size)
  have hb1' : 1 + nb ≤ 140737488355328 := by have := HH.out.2.1; omega
  have hb2' : 1 + nb + p ≤ 140737488355328 := by have := HH.out; omega
  have hpm : p ≤ 1000000 := by have := HH.out.1; omega
  obtain ⟨sz, hsz⟩ : ∃ sz, 1 + nb + p = sz := ⟨_, rfl⟩
  have HSb := Lib.hid (show sz < 16777216 by have := HH.out; omega)
  have HSz := Lib.hid (show ([UInt8.ofNat p] ++ lb).length + p = sz by rw [List.length_append, HH.out.2.2]; exact hsz)
  clear hsz
  clear HRb HBb
  go_wp2_with (first
    | (refine wpList_app_z byteP _ rfl (.tmp 46) (.tmp 47) rfl (fun g => w8.heap.size ≤ g) (.slice (some ⟨w8.heap.size, 0, none⟩) 1 1) [UInt8.ofNat p] rfl HO8.out _ Ab nb cb lb rfl HRc.out hb1' ?_
       intro A9 c9 w9 row9 hO9 hg9 hr9
       have HO9 := Lib.hid (show Oz w9 (fun g => w8.heap.size ≤ g) (.slice A9 (1 + nb) c9) ([UInt8.ofNat p] ++ lb) from hO9.owned (own' := fun g => w8.heap.size ≤ g) (fun g _ h => by rcases h with h | ⟨_, h⟩; exact h; rw [h]; exact HB8.out.size))
       have HB9 := Lib.hid (HB8.out.grown hg9 HB8.out.size (fun g e => (hr9 g e).1))
       have hl9 : ([UInt8.ofNat p] ++ lb).length + p ≤ 140737488355328 := by have := HH.out; rw [List.length_append]; show 1 + _ + _ ≤ _; omega
       clear hO9 hg9 hr9)
    | (refine wpList_app_zeros byteP Tryz.underlying3 _ rfl (.tmp 51) (.tmp 52) rfl (fun g => w8.heap.size ≤ g) (.slice A9 (1 + nb) c9) ([UInt8.ofNat p] ++ lb) rfl HO9.out p rfl hpm hl9 ?_
       intro A10 c10 w10 row10 hO10 hg10 hr10
       rw [show ([UInt8.ofNat p] ++ lb).length + p = sz from HSz.out] at hO10 ⊢
       have HO10 := Lib.hid (show Oz w10 (fun g => w8.heap.size ≤ g) (.slice A10 sz c10) (padB p lb) from hO10.owned (own' := fun g => w8.heap.size ≤ g) (fun g _ h => by rcases h with h | ⟨_, h⟩; exact h; rw [h]; exact HB9.out.size))
       have HB10 := Lib.hid (HB9.out.grown hg10 HB9.out.size (fun g e => (hr10 g e).1))
       clear hO10 hg10 hr10)
    | fail)
  clear hb1' hb2' hpm hl9 hcv
  refine (lawFrame_any A10 sz c10 0 8 1 w10.heap.size (padB p lb) w10 HO10.out.rd (Nat.le_refl _) HSb.out (by decide) (by decide) (by decide)).mono ?_
  rintro e w11 ⟨A11, c11, rfl, ho11, hb11⟩
  have HB11 := Lib.hid (HB10.out.trans (hb11.mono HB10.out.size))
  have HC11 := Lib.hid (HC8.out.below HB11.out)
  have HF11 := Lib.hid (HF8.out.trans (Fr.below HB11.out ow8))
  have HE11 := Lib.hid (HEw2.out.fr HF11.out)
  have HO11 := Lib.hid (ho11.base HB10.out.size)
  have hbn : d0.fed.length + (9 + sz) ≤ 140737488355328 := by have := HSb.out; show 0 + _ ≤ _; omega
  clear ho11 hb11 HB10 HB9 HB8 HO10 HO9 HO8
  go_wp2_with fail
  refine (feed_any w11 ow8 b d0 L8 _ 1 A11 _ c11 _ HE11.out HC11.out HO11.out.rd (HO11.out.tagged HC8.out.new) rfl hbn (runs_d lb p false HH.out.1 (by rw [HH.out.2.2]; exact HH.out.2.1))).mono ?_
  rintro e w12 ⟨M12, A12, c12, ow12, L12, ⟨Ax, cx, rfl⟩, rfl, hle12, hc12, hf12, hrs12, hno12, hev12⟩
  have HC12 := Lib.hid (show CN w12 ow12 b (d1 lb p false) L12 from hc12)
  have HF12 := Lib.hid (HF11.out.trans hf12)
  rw [d_evs, if_neg (by rw [HH.out.2.2, HZ.out]; decide)] at hle12 hrs12 hev12 hno12 ⊢
  rw [show ([] : List EvV).length = 0 from rfl]
  clear hbn hc12 hf12 hle12 hrs12 hno12 hev12 HC11 HF11 HE11 HO11 HC8 HF8 HRc
  have hw1 : wrap64 ((p : Int) + 1) = ((p + 1 : Nat) : Int) := by have := HH.out.1; unfold wrap64; omega
  have hp1 : p + 1 < 4294967296 := by have := HH.out.1; omega
  go_wp2_with fail
  refine (num_rd (p + 1) w12 hp1).mono ?_
  rintro e w13 ⟨rfl, hr13, hb13⟩
  have HR13 := Lib.hid hr13
  have HB13 := Lib.hid hb13
  clear hr13 hb13
  go_wp2_with fail
  refine (lawFrame_any (some ⟨w12.heap.size, 0, none⟩) 4 4 8 0 0 w13.heap.size (be (p + 1) 4) w13 HR13.out (Nat.le_refl _) (by decide) (by decide) (by decide) (by decide)).mono ?_
  rintro e w14 ⟨A14, c14, rfl, ho14, hb14⟩
  have HB14 := Lib.hid (HB13.out.trans (hb14.mono HB13.out.size))
  have HOz14 := Lib.hid (show Oz w14 (fun g => w12.heap.size ≤ g ∧ ow12 g = .no) (.slice A14 (9 + 4) c14) (frameB 8 0 0 (be (p + 1) 4)) from Oz.of_ow ho14 (fun g e => ⟨Nat.le_trans HB13.out.size (ho14.lt e).2, HC12.out.new g (Nat.le_trans HB13.out.size (ho14.lt e).2)⟩))
  clear ho14 hb14 HR13 HB13
  go_wp2_with fail
  refine (num_rd (p + 1) w14 hp1).mono ?_
  rintro e w15 ⟨rfl, hr15, hb15⟩
  have HR15 := Lib.hid hr15
  have HB15 := Lib.hid hb15
  clear hr15 hb15
  go_wp2_with fail
  refine (lawFrame_any (some ⟨w14.heap.size, 0, none⟩) 4 4 8 0 1 w15.heap.size (be (p + 1) 4) w15 HR15.out (Nat.le_refl _) (by decide) (by decide) (by decide) (by decide)).mono ?_
  rintro e w16 ⟨A16, c16, rfl, ho16, hb16⟩
  have HB16 := Lib.hid (HB15.out.trans (hb16.mono HB15.out.size))
  have HR16 := Lib.hid ho16.rd
  have HOz16 := Lib.hid (HOz14.out.keep (fun g hg _ => HB16.out.block g hg) HB16.out.size)
  have HBz := Lib.hid (HB14.out.trans (HB16.out.mono HB14.out.size))
  have hbz : (frameB 8 0 0 (be (p + 1) 4)).length + (9 + 4) ≤ 140737488355328 := by rw [frameB_len, be_len]; decide
  clear ho16 hb16 HB15 HR15 HB16
  go_wp2_with (first
    | (refine wpList_app_z byteP _ rfl (.tmp 62) (.tmp 66) rfl (fun g => w12.heap.size ≤ g ∧ ow12 g = .no) (.slice A14 (9 + 4) c14) (frameB 8 0 0 (be (p + 1) 4)) rfl HOz16.out w16.heap.size A16 (9 + 4) c16 (frameB 8 0 1 (be (p + 1) 4)) rfl HR16.out hbz ?_
       intro A17 c17 w17 row17 hO17 hg17 hr17
       rw [show (frameB 8 0 0 (be (p + 1) 4)).length + (9 + 4) = 26 from by rw [frameB_len, be_len]] at hO17 ⊢
       have HWt := Lib.hid (show Oz w17 (fun g => w12.heap.size ≤ g ∧ ow12 g = .no) (.slice A17 26 c17) (d1 lb p false).out from d1_out lb p false ▸ hO17.owned (own' := fun g => w12.heap.size ≤ g ∧ ow12 g = .no) (fun g _ h => by rcases h with h | ⟨_, h⟩; exact h; rw [h]; exact ⟨HBz.out.size, HC12.out.new _ HBz.out.size⟩))
       have HBy := Lib.hid (HBz.out.grown hg17 HBz.out.size (fun g e => (hr17 g e).1.1))
       clear hO17 hg17 hr17)
    | fail)
  clear hbz HBz HOz16 HOz14 HB14 HR16
  have HCn := Lib.hid (HC12.out.below HBy.out)
  have HFn := Lib.hid (Fr.below HBy.out ow12)
  
  clear hw1 hp1 HC12
  refine (output_still w17 ow12 b _ L12 HCn.out (srt_one (d1_strs lb p false)) (by rw [d1_strs]; exact (show 1 ≤ 1000000 by decide)) (one_mem (d1_strs lb p false) (by rw [s1_id]; decide)) (.inr (one_mem (d1_strs lb p false) (s1_still lb p false)))).mono ?_
  rintro e w18 ⟨A18, c18, ow18, L18, rfl, _, hr18, _, hc18, hf18⟩
  have HC18 := Lib.hid (show CN w18 ow18 b (d2 lb p false) L18 from hc18)
  have HF18 := Lib.hid (HF12.out.trans (HFn.out.trans hf18))
  have HR18 := Lib.hid hr18
  have HWt18 := Lib.hid (oz_fed2 HWt.out hf18).rd
  
  have HRb := Lib.hid (HR.out.below (HF18.out.toBelow HB2.out HO2.out))
  have HG18 := Lib.hid (HE.out.below (HF18.out.toBelow HB2.out HO2.out)).num
  have hnb1 : strAt (d2 lb p false) 1 = some (s1' lb p false) := at_one (d2_strs lb p false) (s1_id lb p false)
  have HAt1 := Lib.hid hnb1
  have HHe := Lib.hid (show (s1' lb p false).held = nb by rw [s1_held]; exact HH.out.2.2)
  generalize (d1 lb p false).out.length = nO at HR18 ⊢
  clear hc18 hf18 hr18 HCn HFn HWt HBy HF12 hnb1
  go_wp2_with fail
  refine (sameBytes_any A18 A17 nO _ c18 c17 _ _ w18 _ _ HR18.out HWt18.out).mono ?_
  rintro e w19 ⟨rfl, hw⟩
  subst w19
  rw [show decide ((d1 lb p false).out = (d1 lb p false).out) = true from decide_eq_true rfl]
  clear HR18 HWt18
  go_wp2_with fail
  refine (dwait w18 ow18 b _ _ L18 nb HC18.out HAt1.out HHe.out).mono ?_
  rintro e w20 ⟨rfl, hw⟩
  subst w20
  have hz0 := HZ.out
  subst hz0
  go_wp2
  go_ret
  exact ⟨rfl, HF18.out.toBelow HB2.out HO2.out⟩
set_option maxHeartbeats 16000000 in
set_option maxRecDepth 100000 in
theorem data_false (w : World) {a1 a2 : Addr} (hE : EnvS w a1 a2) (pad : Int) (p : Nat) (hp : bits .and .i64 pad 63 = (p : Int)) (hp63 : p ≤ 63) (n : Int) (hwn : (Lit.int .i64 n).wf = true) (Ab : Option Addr) (nb cb : Nat) (lb : List UInt8) (hb : Rd w w.heap.size Ab nb lb) (h1 : nb ≤ 8000) (hz : 0 < nb) :
    Calls Tryz.prog 3 #[.slice Ab nb cb, .int .i64 pad, .bool false, .int .i64 n] w fun e w' => e = .returned (.bool true) ∧ Below w.heap.size w w' := by
  have HE := Lib.hid hE
  have HF := Lib.hid (first_any w hE.wd)
  have HR := Lib.hid hb
  have HWn := Lib.hid hwn
  have HZ := Lib.hid hz
  have HH := Lib.hid (show _ ∧ _ ∧ _ from ⟨hp63, h1, hb.1⟩)
  have k1 : ((8000 : Int) < (nb : Int)) = False := by simp; omega
  have hee2 := eql_same a2
  have hcv : IntKind.u8.wrap (p : Int) = (p : Int) := by rw [IntKind.wrap_u8]; omega
  have HOne := Lib.hid (fun W => oz_one W p hp63)
  clear hE hb hp63 h1 hwn hz
  go_enter Tryz.func3, Tryz.ntmps3
  go_wp2_with fail
  refine HF.out.mono ?_
  rintro e w1 ⟨rfl, hb1⟩
  have HB1 := Lib.hid hb1
  clear hb1
  go_wp2_with fail
  refine (new2_any w1 65535 10 (by decide) (by decide)).mono ?_
  rintro e w2 ⟨b, ow2, L2, rfl, hc2, hb2, ho2⟩
  have HB2 := Lib.hid (HB1.out.trans (hb2.mono HB1.out.size))
  have HC2 := Lib.hid hc2
  have HO2 := Lib.hid (show ∀ g, g < w.heap.size → ow2 g = .no from fun g hg => ho2 g (Nat.lt_of_lt_of_le hg HB1.out.size))
  have HEw2 := Lib.hid ((HE.out.below HB1.out).wd.of hb2 ho2)
  clear hb2 hc2 ho2 k1
  go_wp2_with fail
  refine (hello2_any w2).mono ?_
  rintro e w4 ⟨A4, c4, rfl, hz4, hb4⟩
  have HZ4 := Lib.hid hz4
  have HB4 := Lib.hid hb4
  clear hz4 hb4
  have HR4 := Lib.hid (rd_b3 w4)
  have HBx := Lib.hid ((Below.refl w4.heap.size w4).alloc (Nat.le_refl _) (.cells #[.int .u8 131, .int .u8 134, .int .u8 132] 5))
  go_wp2_with fail
  generalize w4.alloc (.cells #[.int .u8 131, .int .u8 134, .int .u8 132] 5) = W4 at *
  refine (lawFrame_any (some ⟨w4.heap.size, 0, none⟩) 3 3 1 4 1 W4.heap.size b3 W4 HR4.out (Nat.le_refl _) (by decide) (by decide) (by decide) (by decide)).mono ?_
  rintro e w5 ⟨A5, c5, rfl, ho5, hb5⟩
  have HB45 := Lib.hid (HBx.out.trans (hb5.mono HBx.out.size))
  have HZ5 := Lib.hid (HZ4.out.keep (fun g hg _ => HB45.out.block g hg) HB45.out.size)
  have HR5 := Lib.hid ho5.rd
  have HB5 := Lib.hid (HB4.out.trans (HB45.out.mono HB4.out.size))
  have hbnd : (prefB ++ frameB 4 0 0 []).length + (9 + 3) ≤ 140737488355328 := by decide
  clear ho5 hb5
  go_wp2_with (first
    | (refine wpList_app_z byteP _ rfl (.tmp 34) (.tmp 36) rfl (fun g => w2.heap.size ≤ g) (.slice A4 33 c4) (prefB ++ frameB 4 0 0 []) rfl HZ5.out w5.heap.size A5 (9 + 3) c5 (frameB 1 4 1 b3) rfl HR5.out hbnd ?_
       intro A6 c6 w6 row6 hO6 hg6 hr6
       have HO6 := Lib.hid (hO6.owned (own' := fun g => w2.heap.size ≤ g) (fun g _ h => by rcases h with h | ⟨_, h⟩; exact h; rw [h]; exact HB5.out.size))
       have HB6 := Lib.hid (HB5.out.grown hg6 HB5.out.size (fun g e => (hr6 g e).1))
       clear hO6 hg6 hr6)
    | fail)
  have HC6 := Lib.hid (HC2.out.below HB6.out)
  have HF6 := Lib.hid (Fr.below HB6.out ow2)
  have HE6 := Lib.hid (HEw2.out.fr HF6.out)
  refine (feed_any w6 ow2 b (newM 2 65535 10) L2 _ 26 A6 _ c6 _ HE6.out HC6.out HO6.out.rd (HO6.out.tagged HC2.out.new) rfl hbnd runs_d5).mono ?_
  rintro e w7 ⟨M7, A7, c7, ow7, L7, ⟨A, c, rfl⟩, rfl, hle7, hc7, hf7, _, _, _⟩
  rw [show (d5 A c).evs.length = 2 from rfl]
  have HC7 := Lib.hid (show CN w7 ow7 b { d5 none 0 with evs := [] } L7 from hc7)
  have HF7 := Lib.hid (HF6.out.trans hf7)
  clear hle7 hc7 hf7 HC6 HF6 HE6 HO6 HB6 HZ5 HR5 HB5 HB45 HBx HR4 HZ4 HB4 HC2 hbnd
  go_wp2_with fail
  refine (output_still w7 ow7 b _ L7 HC7.out (srt_one (s := s0) rfl) (show 1 ≤ 1000000 by decide) (one_mem (s := s0) rfl (by decide)) (.inr (one_mem (s := s0) rfl ⟨rfl, by decide⟩))).mono ?_
  rintro e w8 ⟨A8, c8, ow8, L8, rfl, _, _, _, hc8, hf8⟩
  have HC8 := Lib.hid (show CN w8 ow8 b d0 L8 from hc8)
  have HF8 := Lib.hid (HF7.out.trans hf8)
  have HBb := Lib.hid (HF8.out.toBelow HB2.out HO2.out)
  have HRb := Lib.hid ((HR.out.below HBb.out).more HBb.out.size)
  generalize ({ d5 none 0 with evs := [] } : Cv).out.length = n8
  clear hc8 hf8 HC7 HF7
  have HO8 := Lib.hid (HOne.out w8)
  have HB8 := Lib.hid ((Below.refl w8.heap.size w8).alloc (Nat.le_refl _) (.cells #[.int .u8 (p : Int)] 5))
  have HRc := Lib.hid ((HRb.out.below HB8.out).more HB8.out.size)
  have hb1' : 1 + nb ≤ 140737488355328 := by have := HH.out.2.1; omega
  have hb2' : 1 + nb + p ≤ 140737488355328 := by have := HH.out; omega
  have hpm : p ≤ 1000000 := by have := HH.out.1; omega
  obtain ⟨sz, hsz⟩ : ∃ sz, 1 + nb + p = sz := ⟨_, rfl⟩
  have HSb := Lib.hid (show sz < 16777216 by have := HH.out; omega)
  have HSz := Lib.hid (show ([UInt8.ofNat p] ++ lb).length + p = sz by rw [List.length_append, HH.out.2.2]; exact hsz)
  clear hsz
  clear HRb HBb
  go_wp2_with (first
    | (refine wpList_app_z byteP _ rfl (.tmp 46) (.tmp 47) rfl (fun g => w8.heap.size ≤ g) (.slice (some ⟨w8.heap.size, 0, none⟩) 1 1) [UInt8.ofNat p] rfl HO8.out _ Ab nb cb lb rfl HRc.out hb1' ?_
       intro A9 c9 w9 row9 hO9 hg9 hr9
       have HO9 := Lib.hid (show Oz w9 (fun g => w8.heap.size ≤ g) (.slice A9 (1 + nb) c9) ([UInt8.ofNat p] ++ lb) from hO9.owned (own' := fun g => w8.heap.size ≤ g) (fun g _ h => by rcases h with h | ⟨_, h⟩; exact h; rw [h]; exact HB8.out.size))
       have HB9 := Lib.hid (HB8.out.grown hg9 HB8.out.size (fun g e => (hr9 g e).1))
       have hl9 : ([UInt8.ofNat p] ++ lb).length + p ≤ 140737488355328 := by have := HH.out; rw [List.length_append]; show 1 + _ + _ ≤ _; omega
       clear hO9 hg9 hr9)
    | (refine wpList_app_zeros byteP Tryz.underlying3 _ rfl (.tmp 51) (.tmp 52) rfl (fun g => w8.heap.size ≤ g) (.slice A9 (1 + nb) c9) ([UInt8.ofNat p] ++ lb) rfl HO9.out p rfl hpm hl9 ?_
       intro A10 c10 w10 row10 hO10 hg10 hr10
       rw [show ([UInt8.ofNat p] ++ lb).length + p = sz from HSz.out] at hO10 ⊢
       have HO10 := Lib.hid (show Oz w10 (fun g => w8.heap.size ≤ g) (.slice A10 sz c10) (padB p lb) from hO10.owned (own' := fun g => w8.heap.size ≤ g) (fun g _ h => by rcases h with h | ⟨_, h⟩; exact h; rw [h]; exact HB9.out.size))
       have HB10 := Lib.hid (HB9.out.grown hg10 HB9.out.size (fun g e => (hr10 g e).1))
       clear hO10 hg10 hr10)
    | fail)
  clear hb1' hb2' hpm hl9 hcv
  refine (lawFrame_any A10 sz c10 0 8 1 w10.heap.size (padB p lb) w10 HO10.out.rd (Nat.le_refl _) HSb.out (by decide) (by decide) (by decide)).mono ?_
  rintro e w11 ⟨A11, c11, rfl, ho11, hb11⟩
  have HB11 := Lib.hid (HB10.out.trans (hb11.mono HB10.out.size))
  have HC11 := Lib.hid (HC8.out.below HB11.out)
  have HF11 := Lib.hid (HF8.out.trans (Fr.below HB11.out ow8))
  have HE11 := Lib.hid (HEw2.out.fr HF11.out)
  have HO11 := Lib.hid (ho11.base HB10.out.size)
  have hbn : d0.fed.length + (9 + sz) ≤ 140737488355328 := by have := HSb.out; show 0 + _ ≤ _; omega
  clear ho11 hb11 HB10 HB9 HB8 HO10 HO9 HO8
  go_wp2_with fail
  refine (feed_any w11 ow8 b d0 L8 _ 1 A11 _ c11 _ HE11.out HC11.out HO11.out.rd (HO11.out.tagged HC8.out.new) rfl hbn (runs_d lb p false HH.out.1 (by rw [HH.out.2.2]; exact HH.out.2.1))).mono ?_
  rintro e w12 ⟨M12, A12, c12, ow12, L12, ⟨Ax, cx, rfl⟩, rfl, hle12, hc12, hf12, hrs12, hno12, hev12⟩
  have HC12 := Lib.hid (show CN w12 ow12 b (d1 lb p false) L12 from hc12)
  have HF12 := Lib.hid (HF11.out.trans hf12)
  rw [d_evs, if_pos (.inl (by rw [HH.out.2.2]; exact HZ.out))] at hle12 hrs12 hev12 hno12 ⊢
  obtain ⟨ad, _, rfl, _⟩ := hrs12.at2 (j := 0) (show 0 < 1 by decide)
  have HEv := Lib.hid (EvAt.of (ow := ow12) HH.out.2.2 hrs12 (hno12 (show 0 < 1 by decide) ad rfl) (hev12 _ (List.mem_singleton.2 rfl)))
  rw [show [dEv lb false Ax cx].length = 1 from rfl]
  clear hbn hc12 hf12 hle12 hrs12 hno12 hev12 HC11 HF11 HE11 HO11 HC8 HF8 HRc
  have hw1 : wrap64 ((p : Int) + 1) = ((p + 1 : Nat) : Int) := by have := HH.out.1; unfold wrap64; omega
  have hp1 : p + 1 < 4294967296 := by have := HH.out.1; omega
  go_wp2_with fail
  refine (num_rd (p + 1) w12 hp1).mono ?_
  rintro e w13 ⟨rfl, hr13, hb13⟩
  have HR13 := Lib.hid hr13
  have HB13 := Lib.hid hb13
  clear hr13 hb13
  go_wp2_with fail
  refine (lawFrame_any (some ⟨w12.heap.size, 0, none⟩) 4 4 8 0 0 w13.heap.size (be (p + 1) 4) w13 HR13.out (Nat.le_refl _) (by decide) (by decide) (by decide) (by decide)).mono ?_
  rintro e w14 ⟨A14, c14, rfl, ho14, hb14⟩
  have HB14 := Lib.hid (HB13.out.trans (hb14.mono HB13.out.size))
  have HOz14 := Lib.hid (show Oz w14 (fun g => w12.heap.size ≤ g ∧ ow12 g = .no) (.slice A14 (9 + 4) c14) (frameB 8 0 0 (be (p + 1) 4)) from Oz.of_ow ho14 (fun g e => ⟨Nat.le_trans HB13.out.size (ho14.lt e).2, HC12.out.new g (Nat.le_trans HB13.out.size (ho14.lt e).2)⟩))
  clear ho14 hb14 HR13 HB13
  go_wp2_with fail
  refine (num_rd (p + 1) w14 hp1).mono ?_
  rintro e w15 ⟨rfl, hr15, hb15⟩
  have HR15 := Lib.hid hr15
  have HB15 := Lib.hid hb15
  clear hr15 hb15
  go_wp2_with fail
  refine (lawFrame_any (some ⟨w14.heap.size, 0, none⟩) 4 4 8 0 1 w15.heap.size (be (p + 1) 4) w15 HR15.out (Nat.le_refl _) (by decide) (by decide) (by decide) (by decide)).mono ?_
  rintro e w16 ⟨A16, c16, rfl, ho16, hb16⟩
  have HB16 := Lib.hid (HB15.out.trans (hb16.mono HB15.out.size))
  have HR16 := Lib.hid ho16.rd
  have HOz16 := Lib.hid (HOz14.out.keep (fun g hg _ => HB16.out.block g hg) HB16.out.size)
  have HBz := Lib.hid (HB14.out.trans (HB16.out.mono HB14.out.size))
  have hbz : (frameB 8 0 0 (be (p + 1) 4)).length + (9 + 4) ≤ 140737488355328 := by rw [frameB_len, be_len]; decide
  clear ho16 hb16 HB15 HR15 HB16
  go_wp2_with (first
    | (refine wpList_app_z byteP _ rfl (.tmp 62) (.tmp 66) rfl (fun g => w12.heap.size ≤ g ∧ ow12 g = .no) (.slice A14 (9 + 4) c14) (frameB 8 0 0 (be (p + 1) 4)) rfl HOz16.out w16.heap.size A16 (9 + 4) c16 (frameB 8 0 1 (be (p + 1) 4)) rfl HR16.out hbz ?_
       intro A17 c17 w17 row17 hO17 hg17 hr17
       rw [show (frameB 8 0 0 (be (p + 1) 4)).length + (9 + 4) = 26 from by rw [frameB_len, be_len]] at hO17 ⊢
       have HWt := Lib.hid (show Oz w17 (fun g => w12.heap.size ≤ g ∧ ow12 g = .no) (.slice A17 26 c17) (d1 lb p false).out from d1_out lb p false ▸ hO17.owned (own' := fun g => w12.heap.size ≤ g ∧ ow12 g = .no) (fun g _ h => by rcases h with h | ⟨_, h⟩; exact h; rw [h]; exact ⟨HBz.out.size, HC12.out.new _ HBz.out.size⟩))
       have HBy := Lib.hid (HBz.out.grown hg17 HBz.out.size (fun g e => (hr17 g e).1.1))
       clear hO17 hg17 hr17)
    | fail)
  clear hbz HBz HOz16 HOz14 HB14 HR16
  have HCn := Lib.hid (HC12.out.below HBy.out)
  have HFn := Lib.hid (Fr.below HBy.out ow12)
  have HEvn := Lib.hid (HEv.out.fr HFn.out)
  clear hw1 hp1 HC12
  refine (output_still w17 ow12 b _ L12 HCn.out (srt_one (d1_strs lb p false)) (by rw [d1_strs]; exact (show 1 ≤ 1000000 by decide)) (one_mem (d1_strs lb p false) (by rw [s1_id]; decide)) (.inr (one_mem (d1_strs lb p false) (s1_still lb p false)))).mono ?_
  rintro e w18 ⟨A18, c18, ow18, L18, rfl, _, hr18, _, hc18, hf18⟩
  have HC18 := Lib.hid (show CN w18 ow18 b (d2 lb p false) L18 from hc18)
  have HF18 := Lib.hid (HF12.out.trans (HFn.out.trans hf18))
  have HR18 := Lib.hid hr18
  have HWt18 := Lib.hid (oz_fed2 HWt.out hf18).rd
  have HEv18 := Lib.hid (HEvn.out.fr hf18)
  have HRb := Lib.hid (HR.out.below (HF18.out.toBelow HB2.out HO2.out))
  have HG18 := Lib.hid (HE.out.below (HF18.out.toBelow HB2.out HO2.out)).num
  have hnb1 : strAt (d2 lb p false) 1 = some (s1' lb p false) := at_one (d2_strs lb p false) (s1_id lb p false)
  have HAt1 := Lib.hid hnb1
  have HHe := Lib.hid (show (s1' lb p false).held = nb by rw [s1_held]; exact HH.out.2.2)
  generalize (d1 lb p false).out.length = nO at HR18 ⊢
  clear hc18 hf18 hr18 HCn HFn HWt HBy HF12 hnb1
  go_wp2_with fail
  refine (sameBytes_any A18 A17 nO _ c18 c17 _ _ w18 _ _ HR18.out HWt18.out).mono ?_
  rintro e w19 ⟨rfl, hw⟩
  subst w19
  rw [show decide ((d1 lb p false).out = (d1 lb p false).out) = true from decide_eq_true rfl]
  clear HR18 HWt18
  go_wp2_with fail
  refine (dwait w18 ow18 b _ _ L18 nb HC18.out HAt1.out HHe.out).mono ?_
  rintro e w20 ⟨rfl, hw⟩
  subst w20
  have kz : ((nb : Int) = 0) = False := by have := HZ.out; simp; omega
  have kz' : (nb = 0) = False := by have := HZ.out; simp; omega
  have a0 := HEv18.out.a0
  have a1 := HEv18.out.a1
  have a4 := HEv18.out.a4
  have a6 := HEv18.out.a6
  go_wp2_with fail
  refine (sameBytes_any Ax Ab nb nb cx cb lb lb w18 _ _ HEv18.out.rd HRb.out).mono ?_
  rintro e w19 ⟨rfl, hw⟩
  subst w19
  rw [show decide (lb = lb) = true from decide_eq_true rfl]
  clear a0 a1 a4 a6 HEv18 HEvn HEv HRb kz kz'
  by_cases hbad : n < 1 ∨ (nb : Int) < n
  · have q : (n < 1) = True ∨ ((n < 1) = False ∧ ((nb : Int) < n) = True) := by
      simp only [eq_iff_iff, iff_true, iff_false]
      omega
    go_wp2_with fail
    refine (ate_bad HC18.out rfl _ 1 HAt1.out n (by rw [HHe.out]; exact hbad) HG18.out wf1d).mono ?_
    rintro e w20 ⟨rfl, m20, hw20⟩
    have HC20 := Lib.hid (show CN w20 ow18 b _ L18 from hw20 ▸ HC18.out.drewN m20)
    have HF20 := Lib.hid (show Fr w2 ow2 w20 ow18 from hw20 ▸ (HF18.out.trans (Fr.drewN w18 ow18 m20)))
    have HG20 := Lib.hid (HE.out.below (HF20.out.toBelow HB2.out HO2.out)).num
    have g2 := HG20.out
    clear hw20 HC18 HF18 HG18 hbad
    rcases q with q1 | ⟨q1, q2⟩
    all_goals
      go_wp2_with fail
      clear g2
      refine (output_still w20 ow18 b _ L18 HC20.out (srt_one (d2_strs lb p false)) (by rw [d2_strs]; exact (show 1 ≤ 1000000 by decide)) (one_mem (d2_strs lb p false) (by rw [s1_id]; decide)) (.inr (one_mem (d2_strs lb p false) (s1_still lb p false)))).mono ?_
      rintro e w21 ⟨A21, c21, ow21, L21, rfl, _, _, _, hc21, hf21⟩
      rw [show (d2 lb p false).out.length = 0 from rfl]
      have HC21 := Lib.hid (show CN w21 ow21 b (d2 lb p false) L21 from hc21)
      have HF21 := Lib.hid (HF20.out.trans hf21)
      clear hc21 hf21 HC20 HF20
      go_wp2_with fail
      refine (dwait w21 ow21 b _ _ L21 nb HC21.out HAt1.out HHe.out).mono ?_
      rintro e w22 ⟨rfl, hw⟩
      subst w22
      go_wp2
      go_ret
      exact ⟨rfl, HF21.out.toBelow HB2.out HO2.out⟩
  · obtain ⟨nn, rfl⟩ := Int.eq_ofNat_of_zero_le (a := n) (by omega)
    have hnn : 0 < nn ∧ nn ≤ nb := by omega
    have HNn := Lib.hid hnn
    have q1 : ((nn : Int) < 1) = False := by simp; omega
    have q1' : (nn < 1) = False := by simp; omega
    have q2 : ((nb : Int) < (nn : Int)) = False := by simp; omega
    have q2' : (nb < nn) = False := by simp; omega
    clear hbad
    go_wp2_with fail
    refine (date_ok w18 ow18 b lb p false L18 nn HC18.out (by rw [HH.out.2.2]; exact HH.out.2.1) HH.out.1 HNn.out.1 (by rw [HH.out.2.2]; exact HNn.out.2)).mono ?_
    intro e w20 hp
    obtain rfl := hp.ret
    obtain ⟨ow20, L20, _, hc20, hf20⟩ := hp
    have HC20 := Lib.hid hc20
    have HF20 := Lib.hid (HF18.out.trans hf20)
    have hn4 : nn < 4294967296 := by have := HH.out.2.1; omega
    clear hc20 hf20 HC18 HF18 HG18 HAt1 HHe hnn
    go_wp2_with fail
    refine (num_rd nn w20 hn4).mono ?_
    rintro e w13 ⟨rfl, hr13, hb13⟩
    have HR13 := Lib.hid hr13
    have HB13 := Lib.hid hb13
    clear hr13 hb13 q1 q1' q2 q2'
    go_wp2_with fail
    refine (lawFrame_any (some ⟨w20.heap.size, 0, none⟩) 4 4 8 0 0 w13.heap.size (be nn 4) w13 HR13.out (Nat.le_refl _) (by decide) (by decide) (by decide) (by decide)).mono ?_
    rintro e w14 ⟨A14, c14, rfl, ho14, hb14⟩
    have HB14 := Lib.hid (HB13.out.trans (hb14.mono HB13.out.size))
    have HOz14 := Lib.hid (show Oz w14 (fun g => w20.heap.size ≤ g ∧ ow20 g = .no) (.slice A14 (9 + 4) c14) (frameB 8 0 0 (be nn 4)) from Oz.of_ow ho14 (fun g e => ⟨Nat.le_trans HB13.out.size (ho14.lt e).2, HC20.out.new g (Nat.le_trans HB13.out.size (ho14.lt e).2)⟩))
    clear ho14 hb14 HR13 HB13
    go_wp2_with fail
    refine (num_rd nn w14 hn4).mono ?_
    rintro e w15 ⟨rfl, hr15, hb15⟩
    have HR15 := Lib.hid hr15
    have HB15 := Lib.hid hb15
    clear hr15 hb15
    go_wp2_with fail
    refine (lawFrame_any (some ⟨w14.heap.size, 0, none⟩) 4 4 8 0 1 w15.heap.size (be nn 4) w15 HR15.out (Nat.le_refl _) (by decide) (by decide) (by decide) (by decide)).mono ?_
    rintro e w16 ⟨A16, c16, rfl, ho16, hb16⟩
    have HB16 := Lib.hid (HB15.out.trans (hb16.mono HB15.out.size))
    have HR16 := Lib.hid ho16.rd
    have HOz16 := Lib.hid (HOz14.out.keep (fun g hg _ => HB16.out.block g hg) HB16.out.size)
    have HBz := Lib.hid (HB14.out.trans (HB16.out.mono HB14.out.size))
    have hbz : (frameB 8 0 0 (be nn 4)).length + (9 + 4) ≤ 140737488355328 := by rw [frameB_len, be_len]; decide
    clear ho16 hb16 HB15 HR15 HB16
    go_wp2_with (first
      | (refine wpList_app_z byteP _ rfl (.tmp 156) (.tmp 159) rfl (fun g => w20.heap.size ≤ g ∧ ow20 g = .no) (.slice A14 (9 + 4) c14) (frameB 8 0 0 (be nn 4)) rfl HOz16.out w16.heap.size A16 (9 + 4) c16 (frameB 8 0 1 (be nn 4)) rfl HR16.out hbz ?_
         intro A17 c17 w17 row17 hO17 hg17 hr17
         rw [show (frameB 8 0 0 (be nn 4)).length + (9 + 4) = 26 from by rw [frameB_len, be_len]] at hO17 ⊢
         have HWt := Lib.hid (show Oz w17 (fun g => w20.heap.size ≤ g ∧ ow20 g = .no) (.slice A17 26 c17) (d3 lb p false nn).out from d3_out lb p false nn ▸ hO17.owned (own' := fun g => w20.heap.size ≤ g ∧ ow20 g = .no) (fun g _ h => by rcases h with h | ⟨_, h⟩; exact h; rw [h]; exact ⟨HBz.out.size, HC20.out.new _ HBz.out.size⟩))
         have HBy := Lib.hid (HBz.out.grown hg17 HBz.out.size (fun g e => (hr17 g e).1.1))
         clear hO17 hg17 hr17)
      | fail)
    clear hbz HBz HOz16 HOz14 HB14 HR16
    obtain ⟨dd, hdd⟩ : ∃ dd, nb - nn = dd := ⟨_, rfl⟩
    have hsub : wrap64 ((nb : Int) - (nn : Int)) = (dd : Int) := by have := HNn.out; have := HH.out.2.1; unfold wrap64; omega
    have hsub2 : IntKind.i64.wrap ((nb : Int) - (nn : Int)) = (dd : Int) := by have := HNn.out; have := HH.out.2.1; rw [IntKind.wrap_i64]; omega
    have HDd := Lib.hid hdd
    clear hdd
    have HC21 := Lib.hid (HC20.out.below HBy.out)
    have HF21 := Lib.hid (HF20.out.trans (Fr.below HBy.out ow20))
    have HHe3 := Lib.hid (show (s2' lb p false nn).held = dd by rw [s2_held, HH.out.2.2, HDd.out])
    have HAt3 := Lib.hid (show strAt (d3 lb p false nn) 1 = some (s2' lb p false nn) from at_one (d3_strs lb p false nn) (s1_id lb p false))
    clear HC20 HF20 hn4
    go_wp2_with fail
    refine (dwait w17 ow20 b _ _ L20 dd HC21.out HAt3.out HHe3.out).mono ?_
    rintro e w22 ⟨rfl, hw⟩
    subst w22
    go_wp2_with fail
    refine (output_still w17 ow20 b _ L20 HC21.out (srt_one (d3_strs lb p false nn)) (by rw [d3_strs]; exact (show 1 ≤ 1000000 by decide)) (one_mem (d3_strs lb p false nn) (by show (s1' lb p false).id ≤ _; rw [s1_id]; decide)) (.inr (one_mem (d3_strs lb p false nn) (s2_still lb p false nn)))).mono ?_
    rintro e w23 ⟨A23, c23, ow23, L23, rfl, _, hr23, _, hc23, hf23⟩
    have HF23 := Lib.hid (HF21.out.trans hf23)
    have HR23 := Lib.hid hr23
    have HWt23 := Lib.hid (oz_fed2 HWt.out hf23).rd
    generalize (d3 lb p false nn).out.length = nO3 at HR23 ⊢
    clear hc23 hf23 hr23 HC21 HF21 HWt HBy hsub hsub2
    go_wp2_with fail
    refine (sameBytes_any A23 A17 nO3 _ c23 c17 _ _ w23 _ _ HR23.out HWt23.out).mono ?_
    rintro e w24 ⟨rfl, hw⟩
    subst w24
    rw [show decide ((d3 lb p false nn).out = (d3 lb p false nn).out) = true from decide_eq_true rfl]
    clear HR23 HWt23
    go_wp2
    go_ret
    exact ⟨rfl, HF23.out.toBelow HB2.out HO2.out⟩
set_option maxHeartbeats 16000000 in
set_option maxRecDepth 100000 in
theorem data_true0 (w : World) {a1 a2 : Addr} (hE : EnvS w a1 a2) (pad : Int) (p : Nat) (hp : bits .and .i64 pad 63 = (p : Int)) (hp63 : p ≤ 63) (n : Int) (hwn : (Lit.int .i64 n).wf = true) (Ab : Option Addr) (nb cb : Nat) (lb : List UInt8) (hb : Rd w w.heap.size Ab nb lb) (h1 : nb ≤ 8000) (hz : nb = 0) :
    Calls Tryz.prog 3 #[.slice Ab nb cb, .int .i64 pad, .bool true, .int .i64 n] w fun e w' => e = .returned (.bool true) ∧ Below w.heap.size w w' := by
  have HE := Lib.hid hE
  have HF := Lib.hid (first_any w hE.wd)
  have HR := Lib.hid hb
  have HWn := Lib.hid hwn
  have HZ := Lib.hid hz
  have HH := Lib.hid (show _ ∧ _ ∧ _ from ⟨hp63, h1, hb.1⟩)
  have k1 : ((8000 : Int) < (nb : Int)) = False := by simp; omega
  have hee2 := eql_same a2
  have hcv : IntKind.u8.wrap (p : Int) = (p : Int) := by rw [IntKind.wrap_u8]; omega
  have HOne := Lib.hid (fun W => oz_one W p hp63)
  clear hE hb hp63 h1 hwn hz
  go_enter Tryz.func3, Tryz.ntmps3
  go_wp2_with fail
  refine HF.out.mono ?_
  rintro e w1 ⟨rfl, hb1⟩
  have HB1 := Lib.hid hb1
  clear hb1
  go_wp2_with fail
  refine (new2_any w1 65535 10 (by decide) (by decide)).mono ?_
  rintro e w2 ⟨b, ow2, L2, rfl, hc2, hb2, ho2⟩
  have HB2 := Lib.hid (HB1.out.trans (hb2.mono HB1.out.size))
  have HC2 := Lib.hid hc2
  have HO2 := Lib.hid (show ∀ g, g < w.heap.size → ow2 g = .no from fun g hg => ho2 g (Nat.lt_of_lt_of_le hg HB1.out.size))
  have HEw2 := Lib.hid ((HE.out.below HB1.out).wd.of hb2 ho2)
  clear hb2 hc2 ho2 k1
  go_wp2_with fail
  refine (hello2_any w2).mono ?_
  rintro e w4 ⟨A4, c4, rfl, hz4, hb4⟩
  have HZ4 := Lib.hid hz4
  have HB4 := Lib.hid hb4
  clear hz4 hb4
  have HR4 := Lib.hid (rd_b3 w4)
  have HBx := Lib.hid ((Below.refl w4.heap.size w4).alloc (Nat.le_refl _) (.cells #[.int .u8 131, .int .u8 134, .int .u8 132] 5))
  go_wp2_with fail
  generalize w4.alloc (.cells #[.int .u8 131, .int .u8 134, .int .u8 132] 5) = W4 at *
  refine (lawFrame_any (some ⟨w4.heap.size, 0, none⟩) 3 3 1 4 1 W4.heap.size b3 W4 HR4.out (Nat.le_refl _) (by decide) (by decide) (by decide) (by decide)).mono ?_
  rintro e w5 ⟨A5, c5, rfl, ho5, hb5⟩
  have HB45 := Lib.hid (HBx.out.trans (hb5.mono HBx.out.size))
  have HZ5 := Lib.hid (HZ4.out.keep (fun g hg _ => HB45.out.block g hg) HB45.out.size)
  have HR5 := Lib.hid ho5.rd
  have HB5 := Lib.hid (HB4.out.trans (HB45.out.mono HB4.out.size))
  have hbnd : (prefB ++ frameB 4 0 0 []).length + (9 + 3) ≤ 140737488355328 := by decide
  clear ho5 hb5
  go_wp2_with (first
    | (refine wpList_app_z byteP _ rfl (.tmp 34) (.tmp 36) rfl (fun g => w2.heap.size ≤ g) (.slice A4 33 c4) (prefB ++ frameB 4 0 0 []) rfl HZ5.out w5.heap.size A5 (9 + 3) c5 (frameB 1 4 1 b3) rfl HR5.out hbnd ?_
       intro A6 c6 w6 row6 hO6 hg6 hr6
       have HO6 := Lib.hid (hO6.owned (own' := fun g => w2.heap.size ≤ g) (fun g _ h => by rcases h with h | ⟨_, h⟩; exact h; rw [h]; exact HB5.out.size))
       have HB6 := Lib.hid (HB5.out.grown hg6 HB5.out.size (fun g e => (hr6 g e).1))
       clear hO6 hg6 hr6)
    | fail)
  have HC6 := Lib.hid (HC2.out.below HB6.out)
  have HF6 := Lib.hid (Fr.below HB6.out ow2)
  have HE6 := Lib.hid (HEw2.out.fr HF6.out)
  refine (feed_any w6 ow2 b (newM 2 65535 10) L2 _ 26 A6 _ c6 _ HE6.out HC6.out HO6.out.rd (HO6.out.tagged HC2.out.new) rfl hbnd runs_d5).mono ?_
  rintro e w7 ⟨M7, A7, c7, ow7, L7, ⟨A, c, rfl⟩, rfl, hle7, hc7, hf7, _, _, _⟩
  rw [show (d5 A c).evs.length = 2 from rfl]
  have HC7 := Lib.hid (show CN w7 ow7 b { d5 none 0 with evs := [] } L7 from hc7)
  have HF7 := Lib.hid (HF6.out.trans hf7)
  clear hle7 hc7 hf7 HC6 HF6 HE6 HO6 HB6 HZ5 HR5 HB5 HB45 HBx HR4 HZ4 HB4 HC2 hbnd
  go_wp2_with fail
  refine (output_still w7 ow7 b _ L7 HC7.out (srt_one (s := s0) rfl) (show 1 ≤ 1000000 by decide) (one_mem (s := s0) rfl (by decide)) (.inr (one_mem (s := s0) rfl ⟨rfl, by decide⟩))).mono ?_
  rintro e w8 ⟨A8, c8, ow8, L8, rfl, _, _, _, hc8, hf8⟩
  have HC8 := Lib.hid (show CN w8 ow8 b d0 L8 from hc8)
  have HF8 := Lib.hid (HF7.out.trans hf8)
  have HBb := Lib.hid (HF8.out.toBelow HB2.out HO2.out)
  have HRb := Lib.hid ((HR.out.below HBb.out).more HBb.out.size)
  generalize ({ d5 none 0 with evs := [] } : Cv).out.length = n8
  clear hc8 hf8 HC7 HF7
  have HO8 := Lib.hid (HOne.out w8)
  have HB8 := Lib.hid ((Below.refl w8.heap.size w8).alloc (Nat.le_refl _) (.cells #[.int .u8 (p : Int)] 5))
  have HRc := Lib.hid ((HRb.out.below HB8.out).more HB8.out.size)
  have hb1' : 1 + nb ≤ 140737488355328 := by have := HH.out.2.1; omega
  have hb2' : 1 + nb + p ≤ 140737488355328 := by have := HH.out; omega
  have hpm : p ≤ 1000000 := by have := HH.out.1; omega
  obtain ⟨sz, hsz⟩ : ∃ sz, 1 + nb + p = sz := ⟨_, rfl⟩
  have HSb := Lib.hid (show sz < 16777216 by have := HH.out; omega)
  have HSz := Lib.hid (show ([UInt8.ofNat p] ++ lb).length + p = sz by rw [List.length_append, HH.out.2.2]; exact hsz)
  clear hsz
  clear HRb HBb
  go_wp2_with (first
    | (refine wpList_app_z byteP _ rfl (.tmp 46) (.tmp 47) rfl (fun g => w8.heap.size ≤ g) (.slice (some ⟨w8.heap.size, 0, none⟩) 1 1) [UInt8.ofNat p] rfl HO8.out _ Ab nb cb lb rfl HRc.out hb1' ?_
       intro A9 c9 w9 row9 hO9 hg9 hr9
       have HO9 := Lib.hid (show Oz w9 (fun g => w8.heap.size ≤ g) (.slice A9 (1 + nb) c9) ([UInt8.ofNat p] ++ lb) from hO9.owned (own' := fun g => w8.heap.size ≤ g) (fun g _ h => by rcases h with h | ⟨_, h⟩; exact h; rw [h]; exact HB8.out.size))
       have HB9 := Lib.hid (HB8.out.grown hg9 HB8.out.size (fun g e => (hr9 g e).1))
       have hl9 : ([UInt8.ofNat p] ++ lb).length + p ≤ 140737488355328 := by have := HH.out; rw [List.length_append]; show 1 + _ + _ ≤ _; omega
       clear hO9 hg9 hr9)
    | (refine wpList_app_zeros byteP Tryz.underlying3 _ rfl (.tmp 51) (.tmp 52) rfl (fun g => w8.heap.size ≤ g) (.slice A9 (1 + nb) c9) ([UInt8.ofNat p] ++ lb) rfl HO9.out p rfl hpm hl9 ?_
       intro A10 c10 w10 row10 hO10 hg10 hr10
       rw [show ([UInt8.ofNat p] ++ lb).length + p = sz from HSz.out] at hO10 ⊢
       have HO10 := Lib.hid (show Oz w10 (fun g => w8.heap.size ≤ g) (.slice A10 sz c10) (padB p lb) from hO10.owned (own' := fun g => w8.heap.size ≤ g) (fun g _ h => by rcases h with h | ⟨_, h⟩; exact h; rw [h]; exact HB9.out.size))
       have HB10 := Lib.hid (HB9.out.grown hg10 HB9.out.size (fun g e => (hr10 g e).1))
       clear hO10 hg10 hr10)
    | fail)
  clear hb1' hb2' hpm hl9 hcv
  refine (lawFrame_any A10 sz c10 0 9 1 w10.heap.size (padB p lb) w10 HO10.out.rd (Nat.le_refl _) HSb.out (by decide) (by decide) (by decide)).mono ?_
  rintro e w11 ⟨A11, c11, rfl, ho11, hb11⟩
  have HB11 := Lib.hid (HB10.out.trans (hb11.mono HB10.out.size))
  have HC11 := Lib.hid (HC8.out.below HB11.out)
  have HF11 := Lib.hid (HF8.out.trans (Fr.below HB11.out ow8))
  have HE11 := Lib.hid (HEw2.out.fr HF11.out)
  have HO11 := Lib.hid (ho11.base HB10.out.size)
  have hbn : d0.fed.length + (9 + sz) ≤ 140737488355328 := by have := HSb.out; show 0 + _ ≤ _; omega
  clear ho11 hb11 HB10 HB9 HB8 HO10 HO9 HO8
  go_wp2_with fail
  refine (feed_any w11 ow8 b d0 L8 _ 1 A11 _ c11 _ HE11.out HC11.out HO11.out.rd (HO11.out.tagged HC8.out.new) rfl hbn (runs_d lb p true HH.out.1 (by rw [HH.out.2.2]; exact HH.out.2.1))).mono ?_
  rintro e w12 ⟨M12, A12, c12, ow12, L12, ⟨Ax, cx, rfl⟩, rfl, hle12, hc12, hf12, hrs12, hno12, hev12⟩
  have HC12 := Lib.hid (show CN w12 ow12 b (d1 lb p true) L12 from hc12)
  have HF12 := Lib.hid (HF11.out.trans hf12)
  rw [d_evs, if_pos (.inr rfl)] at hle12 hrs12 hev12 hno12 ⊢
  obtain ⟨ad, _, rfl, _⟩ := hrs12.at2 (j := 0) (show 0 < 1 by decide)
  have HEv := Lib.hid (EvAt.of (ow := ow12) HH.out.2.2 hrs12 (hno12 (show 0 < 1 by decide) ad rfl) (hev12 _ (List.mem_singleton.2 rfl)))
  rw [show [dEv lb true Ax cx].length = 1 from rfl]
  clear hbn hc12 hf12 hle12 hrs12 hno12 hev12 HC11 HF11 HE11 HO11 HC8 HF8 HRc
  have hw1 : wrap64 ((p : Int) + 1) = ((p + 1 : Nat) : Int) := by have := HH.out.1; unfold wrap64; omega
  have hp1 : p + 1 < 4294967296 := by have := HH.out.1; omega
  go_wp2_with fail
  refine (num_rd (p + 1) w12 hp1).mono ?_
  rintro e w13 ⟨rfl, hr13, hb13⟩
  have HR13 := Lib.hid hr13
  have HB13 := Lib.hid hb13
  clear hr13 hb13
  go_wp2_with fail
  refine (lawFrame_any (some ⟨w12.heap.size, 0, none⟩) 4 4 8 0 0 w13.heap.size (be (p + 1) 4) w13 HR13.out (Nat.le_refl _) (by decide) (by decide) (by decide) (by decide)).mono ?_
  rintro e w14 ⟨A14, c14, rfl, ho14, hb14⟩
  have HB14 := Lib.hid (HB13.out.trans (hb14.mono HB13.out.size))
  have HOz14 := Lib.hid (show Oz w14 (fun g => w12.heap.size ≤ g ∧ ow12 g = .no) (.slice A14 (9 + 4) c14) (frameB 8 0 0 (be (p + 1) 4)) from Oz.of_ow ho14 (fun g e => ⟨Nat.le_trans HB13.out.size (ho14.lt e).2, HC12.out.new g (Nat.le_trans HB13.out.size (ho14.lt e).2)⟩))
  clear ho14 hb14 HR13 HB13
  have HWt := Lib.hid (show Oz w14 (fun g => w12.heap.size ≤ g ∧ ow12 g = .no) (.slice A14 (9 + 4) c14) (d1 lb p true).out from (d1_out lb p true).trans (List.append_nil _) ▸ HOz14.out)
  have HBy := HB14
  clear HB14 HOz14
  go_wp2_with fail
  have HCn := Lib.hid (HC12.out.below HBy.out)
  have HFn := Lib.hid (Fr.below HBy.out ow12)
  have HEvn := Lib.hid (HEv.out.fr HFn.out)
  clear hw1 hp1 HC12
  refine (output_still w14 ow12 b _ L12 HCn.out (srt_one (d1_strs lb p true)) (by rw [d1_strs]; exact (show 1 ≤ 1000000 by decide)) (one_mem (d1_strs lb p true) (by rw [s1_id]; decide)) (.inr (one_mem (d1_strs lb p true) (s1_still lb p true)))).mono ?_
  rintro e w18 ⟨A18, c18, ow18, L18, rfl, _, hr18, _, hc18, hf18⟩
  have HC18 := Lib.hid (show CN w18 ow18 b (d2 lb p true) L18 from hc18)
  have HF18 := Lib.hid (HF12.out.trans (HFn.out.trans hf18))
  have HR18 := Lib.hid hr18
  have HWt18 := Lib.hid (oz_fed2 HWt.out hf18).rd
  have HEv18 := Lib.hid (HEvn.out.fr hf18)
  have HRb := Lib.hid (HR.out.below (HF18.out.toBelow HB2.out HO2.out))
  have HG18 := Lib.hid (HE.out.below (HF18.out.toBelow HB2.out HO2.out)).num
  have hnb1 : strAt (d2 lb p true) 1 = some (s1' lb p true) := at_one (d2_strs lb p true) (s1_id lb p true)
  have HAt1 := Lib.hid hnb1
  have HHe := Lib.hid (show (s1' lb p true).held = nb by rw [s1_held]; exact HH.out.2.2)
  generalize (d1 lb p true).out.length = nO at HR18 ⊢
  clear hc18 hf18 hr18 HCn HFn HWt HBy HF12 hnb1
  go_wp2_with fail
  refine (sameBytes_any A18 A14 nO _ c18 c14 _ _ w18 _ _ HR18.out HWt18.out).mono ?_
  rintro e w19 ⟨rfl, hw⟩
  subst w19
  rw [show decide ((d1 lb p true).out = (d1 lb p true).out) = true from decide_eq_true rfl]
  clear HR18 HWt18
  go_wp2_with fail
  refine (dwait w18 ow18 b _ _ L18 nb HC18.out HAt1.out HHe.out).mono ?_
  rintro e w20 ⟨rfl, hw⟩
  subst w20
  have hz0 := HZ.out
  subst hz0
  have a0 := HEv18.out.a0
  have a1 := HEv18.out.a1
  have a4 := HEv18.out.a4
  have a6 := HEv18.out.a6
  go_wp2_with fail
  refine (sameBytes_any Ax Ab 0 0 cx cb lb lb w18 _ _ HEv18.out.rd HRb.out).mono ?_
  rintro e w19 ⟨rfl, hw⟩
  subst w19
  rw [show decide (lb = lb) = true from decide_eq_true rfl]
  clear a0 a1 a4 a6 HEv18 HEvn HEv HRb
  have q : (n < 1) = True ∨ ((n < 1) = False ∧ ((0 : Int) < n) = True) := by
    simp only [eq_iff_iff, iff_true, iff_false]
    omega
  go_wp2_with fail
  refine (ate_bad HC18.out rfl _ 1 HAt1.out n (by rw [HHe.out]; show n < 1 ∨ (0 : Int) < n; omega) HG18.out wf1d).mono ?_
  rintro e w20 ⟨rfl, m20, hw20⟩
  have HC20 := Lib.hid (show CN w20 ow18 b _ L18 from hw20 ▸ HC18.out.drewN m20)
  have HF20 := Lib.hid (show Fr w2 ow2 w20 ow18 from hw20 ▸ (HF18.out.trans (Fr.drewN w18 ow18 m20)))
  have HG20 := Lib.hid (HE.out.below (HF20.out.toBelow HB2.out HO2.out)).num
  have g2 := HG20.out
  clear hw20 HC18 HF18 HG18
  rcases q with q1 | ⟨q1, q2⟩
  all_goals
    go_wp2_with fail
    clear g2
    refine (output_still w20 ow18 b _ L18 HC20.out (srt_one (d2_strs lb p true)) (by rw [d2_strs]; exact (show 1 ≤ 1000000 by decide)) (one_mem (d2_strs lb p true) (by rw [s1_id]; decide)) (.inr (one_mem (d2_strs lb p true) (s1_still lb p true)))).mono ?_
    rintro e w21 ⟨A21, c21, ow21, L21, rfl, _, _, _, hc21, hf21⟩
    rw [show (d2 lb p true).out.length = 0 from rfl]
    have HC21 := Lib.hid (show CN w21 ow21 b (d2 lb p true) L21 from hc21)
    have HF21 := Lib.hid (HF20.out.trans hf21)
    clear hc21 hf21 HC20 HF20
    go_wp2_with fail
    refine (dwait w21 ow21 b _ _ L21 0 HC21.out HAt1.out HHe.out).mono ?_
    rintro e w22 ⟨rfl, hw⟩
    subst w22
    go_wp2
    go_ret
    exact ⟨rfl, HF21.out.toBelow HB2.out HO2.out⟩
set_option maxHeartbeats 16000000 in
set_option maxRecDepth 100000 in
theorem data_true (w : World) {a1 a2 : Addr} (hE : EnvS w a1 a2) (pad : Int) (p : Nat) (hp : bits .and .i64 pad 63 = (p : Int)) (hp63 : p ≤ 63) (n : Int) (hwn : (Lit.int .i64 n).wf = true) (Ab : Option Addr) (nb cb : Nat) (lb : List UInt8) (hb : Rd w w.heap.size Ab nb lb) (h1 : nb ≤ 8000) (hz : 0 < nb) :
    Calls Tryz.prog 3 #[.slice Ab nb cb, .int .i64 pad, .bool true, .int .i64 n] w fun e w' => e = .returned (.bool true) ∧ Below w.heap.size w w' := by
  have HE := Lib.hid hE
  have HF := Lib.hid (first_any w hE.wd)
  have HR := Lib.hid hb
  have HWn := Lib.hid hwn
  have HZ := Lib.hid hz
  have HH := Lib.hid (show _ ∧ _ ∧ _ from ⟨hp63, h1, hb.1⟩)
  have k1 : ((8000 : Int) < (nb : Int)) = False := by simp; omega
  have hee2 := eql_same a2
  have hcv : IntKind.u8.wrap (p : Int) = (p : Int) := by rw [IntKind.wrap_u8]; omega
  have HOne := Lib.hid (fun W => oz_one W p hp63)
  clear hE hb hp63 h1 hwn hz
  go_enter Tryz.func3, Tryz.ntmps3
  go_wp2_with fail
  refine HF.out.mono ?_
  rintro e w1 ⟨rfl, hb1⟩
  have HB1 := Lib.hid hb1
  clear hb1
  go_wp2_with fail
  refine (new2_any w1 65535 10 (by decide) (by decide)).mono ?_
  rintro e w2 ⟨b, ow2, L2, rfl, hc2, hb2, ho2⟩
  have HB2 := Lib.hid (HB1.out.trans (hb2.mono HB1.out.size))
  have HC2 := Lib.hid hc2
  have HO2 := Lib.hid (show ∀ g, g < w.heap.size → ow2 g = .no from fun g hg => ho2 g (Nat.lt_of_lt_of_le hg HB1.out.size))
  have HEw2 := Lib.hid ((HE.out.below HB1.out).wd.of hb2 ho2)
  clear hb2 hc2 ho2 k1
  go_wp2_with fail
  refine (hello2_any w2).mono ?_
  rintro e w4 ⟨A4, c4, rfl, hz4, hb4⟩
  have HZ4 := Lib.hid hz4
  have HB4 := Lib.hid hb4
  clear hz4 hb4
  have HR4 := Lib.hid (rd_b3 w4)
  have HBx := Lib.hid ((Below.refl w4.heap.size w4).alloc (Nat.le_refl _) (.cells #[.int .u8 131, .int .u8 134, .int .u8 132] 5))
  go_wp2_with fail
  generalize w4.alloc (.cells #[.int .u8 131, .int .u8 134, .int .u8 132] 5) = W4 at *
  refine (lawFrame_any (some ⟨w4.heap.size, 0, none⟩) 3 3 1 4 1 W4.heap.size b3 W4 HR4.out (Nat.le_refl _) (by decide) (by decide) (by decide) (by decide)).mono ?_
  rintro e w5 ⟨A5, c5, rfl, ho5, hb5⟩
  have HB45 := Lib.hid (HBx.out.trans (hb5.mono HBx.out.size))
  have HZ5 := Lib.hid (HZ4.out.keep (fun g hg _ => HB45.out.block g hg) HB45.out.size)
  have HR5 := Lib.hid ho5.rd
  have HB5 := Lib.hid (HB4.out.trans (HB45.out.mono HB4.out.size))
  have hbnd : (prefB ++ frameB 4 0 0 []).length + (9 + 3) ≤ 140737488355328 := by decide
  clear ho5 hb5
  go_wp2_with (first
    | (refine wpList_app_z byteP _ rfl (.tmp 34) (.tmp 36) rfl (fun g => w2.heap.size ≤ g) (.slice A4 33 c4) (prefB ++ frameB 4 0 0 []) rfl HZ5.out w5.heap.size A5 (9 + 3) c5 (frameB 1 4 1 b3) rfl HR5.out hbnd ?_
       intro A6 c6 w6 row6 hO6 hg6 hr6
       have HO6 := Lib.hid (hO6.owned (own' := fun g => w2.heap.size ≤ g) (fun g _ h => by rcases h with h | ⟨_, h⟩; exact h; rw [h]; exact HB5.out.size))
       have HB6 := Lib.hid (HB5.out.grown hg6 HB5.out.size (fun g e => (hr6 g e).1))
       clear hO6 hg6 hr6)
    | fail)
  have HC6 := Lib.hid (HC2.out.below HB6.out)
  have HF6 := Lib.hid (Fr.below HB6.out ow2)
  have HE6 := Lib.hid (HEw2.out.fr HF6.out)
  refine (feed_any w6 ow2 b (newM 2 65535 10) L2 _ 26 A6 _ c6 _ HE6.out HC6.out HO6.out.rd (HO6.out.tagged HC2.out.new) rfl hbnd runs_d5).mono ?_
  rintro e w7 ⟨M7, A7, c7, ow7, L7, ⟨A, c, rfl⟩, rfl, hle7, hc7, hf7, _, _, _⟩
  rw [show (d5 A c).evs.length = 2 from rfl]
  have HC7 := Lib.hid (show CN w7 ow7 b { d5 none 0 with evs := [] } L7 from hc7)
  have HF7 := Lib.hid (HF6.out.trans hf7)
  clear hle7 hc7 hf7 HC6 HF6 HE6 HO6 HB6 HZ5 HR5 HB5 HB45 HBx HR4 HZ4 HB4 HC2 hbnd
  go_wp2_with fail
  refine (output_still w7 ow7 b _ L7 HC7.out (srt_one (s := s0) rfl) (show 1 ≤ 1000000 by decide) (one_mem (s := s0) rfl (by decide)) (.inr (one_mem (s := s0) rfl ⟨rfl, by decide⟩))).mono ?_
  rintro e w8 ⟨A8, c8, ow8, L8, rfl, _, _, _, hc8, hf8⟩
  have HC8 := Lib.hid (show CN w8 ow8 b d0 L8 from hc8)
  have HF8 := Lib.hid (HF7.out.trans hf8)
  have HBb := Lib.hid (HF8.out.toBelow HB2.out HO2.out)
  have HRb := Lib.hid ((HR.out.below HBb.out).more HBb.out.size)
  generalize ({ d5 none 0 with evs := [] } : Cv).out.length = n8
  clear hc8 hf8 HC7 HF7
  have HO8 := Lib.hid (HOne.out w8)
  have HB8 := Lib.hid ((Below.refl w8.heap.size w8).alloc (Nat.le_refl _) (.cells #[.int .u8 (p : Int)] 5))
  have HRc := Lib.hid ((HRb.out.below HB8.out).more HB8.out.size)
  have hb1' : 1 + nb ≤ 140737488355328 := by have := HH.out.2.1; omega
  have hb2' : 1 + nb + p ≤ 140737488355328 := by have := HH.out; omega
  have hpm : p ≤ 1000000 := by have := HH.out.1; omega
  obtain ⟨sz, hsz⟩ : ∃ sz, 1 + nb + p = sz := ⟨_, rfl⟩
  have HSb := Lib.hid (show sz < 16777216 by have := HH.out; omega)
  have HSz := Lib.hid (show ([UInt8.ofNat p] ++ lb).length + p = sz by rw [List.length_append, HH.out.2.2]; exact hsz)
  clear hsz
  clear HRb HBb
  go_wp2_with (first
    | (refine wpList_app_z byteP _ rfl (.tmp 46) (.tmp 47) rfl (fun g => w8.heap.size ≤ g) (.slice (some ⟨w8.heap.size, 0, none⟩) 1 1) [UInt8.ofNat p] rfl HO8.out _ Ab nb cb lb rfl HRc.out hb1' ?_
       intro A9 c9 w9 row9 hO9 hg9 hr9
       have HO9 := Lib.hid (show Oz w9 (fun g => w8.heap.size ≤ g) (.slice A9 (1 + nb) c9) ([UInt8.ofNat p] ++ lb) from hO9.owned (own' := fun g => w8.heap.size ≤ g) (fun g _ h => by rcases h with h | ⟨_, h⟩; exact h; rw [h]; exact HB8.out.size))
       have HB9 := Lib.hid (HB8.out.grown hg9 HB8.out.size (fun g e => (hr9 g e).1))
       have hl9 : ([UInt8.ofNat p] ++ lb).length + p ≤ 140737488355328 := by have := HH.out; rw [List.length_append]; show 1 + _ + _ ≤ _; omega
       clear hO9 hg9 hr9)
    | (refine wpList_app_zeros byteP Tryz.underlying3 _ rfl (.tmp 51) (.tmp 52) rfl (fun g => w8.heap.size ≤ g) (.slice A9 (1 + nb) c9) ([UInt8.ofNat p] ++ lb) rfl HO9.out p rfl hpm hl9 ?_
       intro A10 c10 w10 row10 hO10 hg10 hr10
       rw [show ([UInt8.ofNat p] ++ lb).length + p = sz from HSz.out] at hO10 ⊢
       have HO10 := Lib.hid (show Oz w10 (fun g => w8.heap.size ≤ g) (.slice A10 sz c10) (padB p lb) from hO10.owned (own' := fun g => w8.heap.size ≤ g) (fun g _ h => by rcases h with h | ⟨_, h⟩; exact h; rw [h]; exact HB9.out.size))
       have HB10 := Lib.hid (HB9.out.grown hg10 HB9.out.size (fun g e => (hr10 g e).1))
       clear hO10 hg10 hr10)
    | fail)
  clear hb1' hb2' hpm hl9 hcv
  refine (lawFrame_any A10 sz c10 0 9 1 w10.heap.size (padB p lb) w10 HO10.out.rd (Nat.le_refl _) HSb.out (by decide) (by decide) (by decide)).mono ?_
  rintro e w11 ⟨A11, c11, rfl, ho11, hb11⟩
  have HB11 := Lib.hid (HB10.out.trans (hb11.mono HB10.out.size))
  have HC11 := Lib.hid (HC8.out.below HB11.out)
  have HF11 := Lib.hid (HF8.out.trans (Fr.below HB11.out ow8))
  have HE11 := Lib.hid (HEw2.out.fr HF11.out)
  have HO11 := Lib.hid (ho11.base HB10.out.size)
  have hbn : d0.fed.length + (9 + sz) ≤ 140737488355328 := by have := HSb.out; show 0 + _ ≤ _; omega
  clear ho11 hb11 HB10 HB9 HB8 HO10 HO9 HO8
  go_wp2_with fail
  refine (feed_any w11 ow8 b d0 L8 _ 1 A11 _ c11 _ HE11.out HC11.out HO11.out.rd (HO11.out.tagged HC8.out.new) rfl hbn (runs_d lb p true HH.out.1 (by rw [HH.out.2.2]; exact HH.out.2.1))).mono ?_
  rintro e w12 ⟨M12, A12, c12, ow12, L12, ⟨Ax, cx, rfl⟩, rfl, hle12, hc12, hf12, hrs12, hno12, hev12⟩
  have HC12 := Lib.hid (show CN w12 ow12 b (d1 lb p true) L12 from hc12)
  have HF12 := Lib.hid (HF11.out.trans hf12)
  rw [d_evs, if_pos (.inr rfl)] at hle12 hrs12 hev12 hno12 ⊢
  obtain ⟨ad, _, rfl, _⟩ := hrs12.at2 (j := 0) (show 0 < 1 by decide)
  have HEv := Lib.hid (EvAt.of (ow := ow12) HH.out.2.2 hrs12 (hno12 (show 0 < 1 by decide) ad rfl) (hev12 _ (List.mem_singleton.2 rfl)))
  rw [show [dEv lb true Ax cx].length = 1 from rfl]
  clear hbn hc12 hf12 hle12 hrs12 hno12 hev12 HC11 HF11 HE11 HO11 HC8 HF8 HRc
  have hw1 : wrap64 ((p : Int) + 1) = ((p + 1 : Nat) : Int) := by have := HH.out.1; unfold wrap64; omega
  have hp1 : p + 1 < 4294967296 := by have := HH.out.1; omega
  go_wp2_with fail
  refine (num_rd (p + 1) w12 hp1).mono ?_
  rintro e w13 ⟨rfl, hr13, hb13⟩
  have HR13 := Lib.hid hr13
  have HB13 := Lib.hid hb13
  clear hr13 hb13
  go_wp2_with fail
  refine (lawFrame_any (some ⟨w12.heap.size, 0, none⟩) 4 4 8 0 0 w13.heap.size (be (p + 1) 4) w13 HR13.out (Nat.le_refl _) (by decide) (by decide) (by decide) (by decide)).mono ?_
  rintro e w14 ⟨A14, c14, rfl, ho14, hb14⟩
  have HB14 := Lib.hid (HB13.out.trans (hb14.mono HB13.out.size))
  have HOz14 := Lib.hid (show Oz w14 (fun g => w12.heap.size ≤ g ∧ ow12 g = .no) (.slice A14 (9 + 4) c14) (frameB 8 0 0 (be (p + 1) 4)) from Oz.of_ow ho14 (fun g e => ⟨Nat.le_trans HB13.out.size (ho14.lt e).2, HC12.out.new g (Nat.le_trans HB13.out.size (ho14.lt e).2)⟩))
  clear ho14 hb14 HR13 HB13
  have HWt := Lib.hid (show Oz w14 (fun g => w12.heap.size ≤ g ∧ ow12 g = .no) (.slice A14 (9 + 4) c14) (d1 lb p true).out from (d1_out lb p true).trans (List.append_nil _) ▸ HOz14.out)
  have HBy := HB14
  clear HB14 HOz14
  go_wp2_with fail
  have HCn := Lib.hid (HC12.out.below HBy.out)
  have HFn := Lib.hid (Fr.below HBy.out ow12)
  have HEvn := Lib.hid (HEv.out.fr HFn.out)
  clear hw1 hp1 HC12
  refine (output_still w14 ow12 b _ L12 HCn.out (srt_one (d1_strs lb p true)) (by rw [d1_strs]; exact (show 1 ≤ 1000000 by decide)) (one_mem (d1_strs lb p true) (by rw [s1_id]; decide)) (.inr (one_mem (d1_strs lb p true) (s1_still lb p true)))).mono ?_
  rintro e w18 ⟨A18, c18, ow18, L18, rfl, _, hr18, _, hc18, hf18⟩
  have HC18 := Lib.hid (show CN w18 ow18 b (d2 lb p true) L18 from hc18)
  have HF18 := Lib.hid (HF12.out.trans (HFn.out.trans hf18))
  have HR18 := Lib.hid hr18
  have HWt18 := Lib.hid (oz_fed2 HWt.out hf18).rd
  have HEv18 := Lib.hid (HEvn.out.fr hf18)
  have HRb := Lib.hid (HR.out.below (HF18.out.toBelow HB2.out HO2.out))
  have HG18 := Lib.hid (HE.out.below (HF18.out.toBelow HB2.out HO2.out)).num
  have hnb1 : strAt (d2 lb p true) 1 = some (s1' lb p true) := at_one (d2_strs lb p true) (s1_id lb p true)
  have HAt1 := Lib.hid hnb1
  have HHe := Lib.hid (show (s1' lb p true).held = nb by rw [s1_held]; exact HH.out.2.2)
  generalize (d1 lb p true).out.length = nO at HR18 ⊢
  clear hc18 hf18 hr18 HCn HFn HWt HBy HF12 hnb1
  go_wp2_with fail
  refine (sameBytes_any A18 A14 nO _ c18 c14 _ _ w18 _ _ HR18.out HWt18.out).mono ?_
  rintro e w19 ⟨rfl, hw⟩
  subst w19
  rw [show decide ((d1 lb p true).out = (d1 lb p true).out) = true from decide_eq_true rfl]
  clear HR18 HWt18
  go_wp2_with fail
  refine (dwait w18 ow18 b _ _ L18 nb HC18.out HAt1.out HHe.out).mono ?_
  rintro e w20 ⟨rfl, hw⟩
  subst w20
  have kz : ((nb : Int) = 0) = False := by have := HZ.out; simp; omega
  have kz' : (nb = 0) = False := by have := HZ.out; simp; omega
  have a0 := HEv18.out.a0
  have a1 := HEv18.out.a1
  have a4 := HEv18.out.a4
  have a6 := HEv18.out.a6
  go_wp2_with fail
  refine (sameBytes_any Ax Ab nb nb cx cb lb lb w18 _ _ HEv18.out.rd HRb.out).mono ?_
  rintro e w19 ⟨rfl, hw⟩
  subst w19
  rw [show decide (lb = lb) = true from decide_eq_true rfl]
  clear a0 a1 a4 a6 HEv18 HEvn HEv HRb kz kz'
  by_cases hbad : n < 1 ∨ (nb : Int) < n
  · have q : (n < 1) = True ∨ ((n < 1) = False ∧ ((nb : Int) < n) = True) := by
      simp only [eq_iff_iff, iff_true, iff_false]
      omega
    go_wp2_with fail
    refine (ate_bad HC18.out rfl _ 1 HAt1.out n (by rw [HHe.out]; exact hbad) HG18.out wf1d).mono ?_
    rintro e w20 ⟨rfl, m20, hw20⟩
    have HC20 := Lib.hid (show CN w20 ow18 b _ L18 from hw20 ▸ HC18.out.drewN m20)
    have HF20 := Lib.hid (show Fr w2 ow2 w20 ow18 from hw20 ▸ (HF18.out.trans (Fr.drewN w18 ow18 m20)))
    have HG20 := Lib.hid (HE.out.below (HF20.out.toBelow HB2.out HO2.out)).num
    have g2 := HG20.out
    clear hw20 HC18 HF18 HG18 hbad
    rcases q with q1 | ⟨q1, q2⟩
    all_goals
      go_wp2_with fail
      clear g2
      refine (output_still w20 ow18 b _ L18 HC20.out (srt_one (d2_strs lb p true)) (by rw [d2_strs]; exact (show 1 ≤ 1000000 by decide)) (one_mem (d2_strs lb p true) (by rw [s1_id]; decide)) (.inr (one_mem (d2_strs lb p true) (s1_still lb p true)))).mono ?_
      rintro e w21 ⟨A21, c21, ow21, L21, rfl, _, _, _, hc21, hf21⟩
      rw [show (d2 lb p true).out.length = 0 from rfl]
      have HC21 := Lib.hid (show CN w21 ow21 b (d2 lb p true) L21 from hc21)
      have HF21 := Lib.hid (HF20.out.trans hf21)
      clear hc21 hf21 HC20 HF20
      go_wp2_with fail
      refine (dwait w21 ow21 b _ _ L21 nb HC21.out HAt1.out HHe.out).mono ?_
      rintro e w22 ⟨rfl, hw⟩
      subst w22
      go_wp2
      go_ret
      exact ⟨rfl, HF21.out.toBelow HB2.out HO2.out⟩
  · obtain ⟨nn, rfl⟩ := Int.eq_ofNat_of_zero_le (a := n) (by omega)
    have hnn : 0 < nn ∧ nn ≤ nb := by omega
    have HNn := Lib.hid hnn
    have q1 : ((nn : Int) < 1) = False := by simp; omega
    have q1' : (nn < 1) = False := by simp; omega
    have q2 : ((nb : Int) < (nn : Int)) = False := by simp; omega
    have q2' : (nb < nn) = False := by simp; omega
    clear hbad
    go_wp2_with fail
    refine (date_ok w18 ow18 b lb p true L18 nn HC18.out (by rw [HH.out.2.2]; exact HH.out.2.1) HH.out.1 HNn.out.1 (by rw [HH.out.2.2]; exact HNn.out.2)).mono ?_
    intro e w20 hp
    obtain rfl := hp.ret
    obtain ⟨ow20, L20, _, hc20, hf20⟩ := hp
    have HC20 := Lib.hid hc20
    have HF20 := Lib.hid (HF18.out.trans hf20)
    have hn4 : nn < 4294967296 := by have := HH.out.2.1; omega
    clear hc20 hf20 HC18 HF18 HG18 HAt1 HHe hnn
    go_wp2_with fail
    refine (num_rd nn w20 hn4).mono ?_
    rintro e w13 ⟨rfl, hr13, hb13⟩
    have HR13 := Lib.hid hr13
    have HB13 := Lib.hid hb13
    clear hr13 hb13 q1 q1' q2 q2'
    go_wp2_with fail
    refine (lawFrame_any (some ⟨w20.heap.size, 0, none⟩) 4 4 8 0 0 w13.heap.size (be nn 4) w13 HR13.out (Nat.le_refl _) (by decide) (by decide) (by decide) (by decide)).mono ?_
    rintro e w14 ⟨A14, c14, rfl, ho14, hb14⟩
    have HB14 := Lib.hid (HB13.out.trans (hb14.mono HB13.out.size))
    have HOz14 := Lib.hid (show Oz w14 (fun g => w20.heap.size ≤ g ∧ ow20 g = .no) (.slice A14 (9 + 4) c14) (frameB 8 0 0 (be nn 4)) from Oz.of_ow ho14 (fun g e => ⟨Nat.le_trans HB13.out.size (ho14.lt e).2, HC20.out.new g (Nat.le_trans HB13.out.size (ho14.lt e).2)⟩))
    clear ho14 hb14 HR13 HB13
    have HWt := Lib.hid (show Oz w14 (fun g => w20.heap.size ≤ g ∧ ow20 g = .no) (.slice A14 (9 + 4) c14) (d3 lb p true nn).out from (d3_out lb p true nn).trans (List.append_nil _) ▸ HOz14.out)
    have HBy := HB14
    clear HB14 HOz14
    go_wp2_with fail
    obtain ⟨dd, hdd⟩ : ∃ dd, nb - nn = dd := ⟨_, rfl⟩
    have hsub : wrap64 ((nb : Int) - (nn : Int)) = (dd : Int) := by have := HNn.out; have := HH.out.2.1; unfold wrap64; omega
    have hsub2 : IntKind.i64.wrap ((nb : Int) - (nn : Int)) = (dd : Int) := by have := HNn.out; have := HH.out.2.1; rw [IntKind.wrap_i64]; omega
    have HDd := Lib.hid hdd
    clear hdd
    have HC21 := Lib.hid (HC20.out.below HBy.out)
    have HF21 := Lib.hid (HF20.out.trans (Fr.below HBy.out ow20))
    have HHe3 := Lib.hid (show (s2' lb p true nn).held = dd by rw [s2_held, HH.out.2.2, HDd.out])
    have HAt3 := Lib.hid (show strAt (d3 lb p true nn) 1 = some (s2' lb p true nn) from at_one (d3_strs lb p true nn) (s1_id lb p true))
    clear HC20 HF20 hn4
    go_wp2_with fail
    refine (dwait w14 ow20 b _ _ L20 dd HC21.out HAt3.out HHe3.out).mono ?_
    rintro e w22 ⟨rfl, hw⟩
    subst w22
    go_wp2_with fail
    refine (output_still w14 ow20 b _ L20 HC21.out (srt_one (d3_strs lb p true nn)) (by rw [d3_strs]; exact (show 1 ≤ 1000000 by decide)) (one_mem (d3_strs lb p true nn) (by show (s1' lb p true).id ≤ _; rw [s1_id]; decide)) (.inr (one_mem (d3_strs lb p true nn) (s2_still lb p true nn)))).mono ?_
    rintro e w23 ⟨A23, c23, ow23, L23, rfl, _, hr23, _, hc23, hf23⟩
    have HF23 := Lib.hid (HF21.out.trans hf23)
    have HR23 := Lib.hid hr23
    have HWt23 := Lib.hid (oz_fed2 HWt.out hf23).rd
    generalize (d3 lb p true nn).out.length = nO3 at HR23 ⊢
    clear hc23 hf23 hr23 HC21 HF21 HWt HBy hsub hsub2
    go_wp2_with fail
    refine (sameBytes_any A23 A14 nO3 _ c23 c14 _ _ w23 _ _ HR23.out HWt23.out).mono ?_
    rintro e w24 ⟨rfl, hw⟩
    subst w24
    rw [show decide ((d3 lb p true nn).out = (d3 lb p true nn).out) = true from decide_eq_true rfl]
    clear HR23 HWt23
    go_wp2
    go_ret
    exact ⟨rfl, HF23.out.toBelow HB2.out HO2.out⟩
/-- The walk of ConnData. -/
theorem connData_any (w : World) {a1 a2 : Addr} (hE : EnvS w a1 a2) (Ab : Option Addr) (nb cb : Nat) (lb : List UInt8) (hb : Rd w w.heap.size Ab nb lb) (pad : Int) (fin : Bool) (n : Int) (hwn : (Lit.int .i64 n).wf = true) :
    Calls Tryz.prog 3 #[.slice Ab nb cb, .int .i64 pad, .bool fin, .int .i64 n] w fun e w' => e = .returned (.bool true) ∧ Below w.heap.size w w' := by
  by_cases h : 8000 < nb
  · exact data_much w hE.wd pad n fin Ab nb cb h
  · obtain ⟨p, hp, e⟩ := and_mask pad 63 (by decide)
    rcases fin with _ | _
    · rcases Nat.eq_zero_or_pos nb with h0 | h0
      · exact data_false0 w hE pad p e hp n hwn Ab nb cb lb hb (by omega) h0
      · exact data_false w hE pad p e hp n hwn Ab nb cb lb hb (by omega) h0
    · rcases Nat.eq_zero_or_pos nb with h0 | h0
      · exact data_true0 w hE pad p e hp n hwn Ab nb cb lb hb (by omega) h0
      · exact data_true w hE pad p e hp n hwn Ab nb cb lb hb (by omega) h0
end Go.Proofs.YtdkfbkjmhgbppaaGreatDoor
