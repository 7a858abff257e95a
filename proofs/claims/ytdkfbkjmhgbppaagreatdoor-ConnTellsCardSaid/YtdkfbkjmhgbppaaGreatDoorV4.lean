/-
  The walk of ConnTells.
-/
import Derived.Test.YtdkfbkjmhgbppaaGreatDoorKc
import Derived.Test.YtdkfbkjmhgbppaaGreatDoorJz
import Derived.Test.YtdkfbkjmhgbppaaGreatDoorJw
import Derived.BigQuiet
import Derived.Deep.RegionHeld3
set_option linter.unusedSimpArgs false
set_option linter.unusedVariables false
namespace Go.Proofs.YtdkfbkjmhgbppaaGreatDoor
open Go.RowKit Go.Own Go.Own.Im Go.Own.Cx Go.Own.Fr Go.Own.Hd
/-- What the walk reads of package-level variables. -/
structure EnvT (w : World) (a1 a2 a3 a4 : Addr) : Prop where
  wd : EnvW w
  role : RoleAt w a1
  num : NumAt w a2
  gone : GoneAt w a3
  str : StreamAt w a4
theorem EnvT.below {w w' : World} {a1 a2 a3 a4 : Addr} (h : EnvT w a1 a2 a3 a4) (hb : Below w.heap.size w w') : EnvT w' a1 a2 a3 a4 :=
  ⟨h.wd.below hb, (hb.cell (p := ⟨2, 0, none⟩) (Nat.lt_of_lt_of_le (by decide : 2 < 20) h.wd.room)).trans h.role, (hb.cell (p := ⟨0, 0, none⟩) (Nat.lt_of_lt_of_le (by decide : 0 < 20) h.wd.room)).trans h.num,
    (hb.cell (p := ⟨1, 0, none⟩) (Nat.lt_of_lt_of_le (by decide : 1 < 20) h.wd.room)).trans h.gone, (hb.cell (p := ⟨3, 0, none⟩) (Nat.lt_of_lt_of_le (by decide : 3 < 20) h.wd.room)).trans h.str⟩
structure Er4 (w : World) (a1 a2 a3 a4 : Addr) : Prop where
  role : RoleAt w a1
  num : NumAt w a2
  gone : GoneAt w a3
  str : StreamAt w a4
theorem Er4.fr {w w' : World} {ow ow' : Nat → Tg} {a1 a2 a3 a4 : Addr} (h : Er4 w a1 a2 a3 a4) (hE : Env w ow) (f : Fr w ow w' ow') : Er4 w' a1 a2 a3 a4 := by
  have k : ∀ g, g < 20 → w'.cell? ⟨g, 0, none⟩ = w.cell? ⟨g, 0, none⟩ := fun g hg => World.cell?_of_block (a := ⟨g, 0, none⟩) (f.keep g (Nat.lt_of_lt_of_le hg hE.room) (hE.no g hg))
  exact ⟨(k _ (by decide)).trans h.role, (k _ (by decide)).trans h.num, (k _ (by decide)).trans h.gone, (k _ (by decide)).trans h.str⟩
/-- A client that was just made, some frames behind. -/
def tM (op : List UInt8) : Cv := { newM 1 65535 0 with out := op }
def tS (l : List UInt8) : Sv := sentS { id := 1, own := 1, inw := 65535, outw := 65535 } l true
/-- The same, with two streams. -/
def t2M (op : List UInt8) : Cv := opcM (opcM (tM op) false ix3n) true ix3n
/-- .. behind what was sent. -/
def t3M (op l : List UInt8) : Cv := { t2M op with strs := updS (t2M op).strs (tS l) }
theorem t2_first (op : List UInt8) : strAt (t2M op) 1 = some { id := 1, own := 1, inw := 65535, outw := 65535 } := rfl
theorem t2_second (op : List UInt8) : strAt (t2M op) 3 = some { id := 3, own := 3, inw := 65535, outw := 65535 } := rfl
theorem t3_strs (op l : List UInt8) : (t3M op l).strs = [tS l, { id := 3, own := 3, inw := 65535, outw := 65535 }] := rfl
theorem t3_first (op l : List UInt8) : strAt (t3M op l) 1 = some (tS l) := rfl
theorem t2_len (op : List UInt8) : (t2M op).out.length ≤ op.length + 100 := by
  show ((op ++ frameB 1 (hfl false) 1 (ixB ix3n)) ++ frameB 1 (hfl true) 3 (ixB ix3n)).length ≤ _
  rw [List.length_append, List.length_append, frameB_len, frameB_len]
  simp [ixB, ix3n]
theorem wf3 : (Lit.int .i64 (3 : Int)).wf = true := by decide
theorem wf1' : (Lit.int .i64 (1 : Int)).wf = true := by decide
theorem twait (w : World) (ow : Nat → Tg) (b : Nat) (op : List UInt8) (L : Lay) (n : Nat) (l : List UInt8) (h : CN w ow b (t3M op l) L) (hn : l.length = n) :
    Calls Tryz.prog 29 #[.pointer (some ⟨b, 0, none⟩), .int .i64 1] w fun e w' => e = .returned (.int .i64 (n : Nat)) ∧ w' = w := by
  refine (waiting_any w ow b (t3M op l) L 1 h wf1').mono ?_
  rintro e w' ⟨rfl, hw⟩
  refine ⟨?_, hw⟩
  rw [t3_first]
  show Ending.returned (.int .i64 (([] ++ l : List UInt8).length : Nat)) = _
  rw [List.nil_append, hn]
theorem neq_same (a : Addr) (w : World) : (binOp .neq 26 (.iface 266 (.pointer (some a))) (.iface 266 (.pointer (some a)))).run Tryz.prog w = .ok (.bool false) w := by
  obtain ⟨i, hi, hcmp⟩ := Option.map_eq_some_iff.1 (show (Tryz.prog.info? 266).map (·.comparable) = some true by kernel_rfl)
  obtain ⟨j, hj, hjs⟩ := Option.map_eq_some_iff.1 (show (Tryz.prog.info? 268).map (·.size) = some 1 by kernel_rfl)
  simp only [binOp]
  simp [Op.equal, Op.maxDepth, run_equalIn_iface_ptr_same w 9998 a Tryz.underlying26 Tryz.underlying266 hi hcmp hj]
theorem eql_nil3 (a : Addr) (w : World) : (binOp .eql 26 .nilIface (.iface 266 (.pointer (some a)))).run Tryz.prog w = .ok (.bool false) w := by
  have h : ∀ d : Nat, (Op.equalIn (d + 1) 26 .nilIface (.iface 266 (.pointer (some a)))).run Tryz.prog w = .ok false w := fun d => by simp [Op.equalIn, run_underlying Tryz.underlying26]
  simp only [binOp]
  simp [Op.equal, Op.maxDepth, h 9999]
/-- Between two lists' ends. -/
def TlR (w : World) (n : Nat) (iv : Value) (wr : World) : Prop := ∃ k : Nat, iv = .int .i64 (k : Nat) ∧ k ≤ n ∧ Below w.heap.size w wr
set_option maxHeartbeats 16000000 in
set_option maxRecDepth 100000 in
/-- Too much to be looked at. -/
theorem tells_much (w : World) (hW : EnvW w) (n id : Int) (Ab Al : Option Addr) (nb cb nl cl : Nat) (h : 20 < nl ∨ 3000 < nb) :
    Calls Tryz.prog 9 #[.int .i64 n, .int .i64 id, .slice Al nl cl, .slice Ab nb cb] w fun e w' => e = .returned (.bool true) ∧ Below w.heap.size w w' := by
  have HF := Lib.hid (first_any w hW)
  have k : ((20 : Int) < (nl : Int)) = True ∨ (((20 : Int) < (nl : Int)) = False ∧ ((3000 : Int) < (nb : Int)) = True) := by
    simp only [eq_iff_iff, iff_true, iff_false]
    omega
  clear hW h
  rcases k with k1 | ⟨k1, k2⟩
  all_goals
    go_enter Tryz.func9, Tryz.ntmps9
    go_wp2_with fail
    refine HF.out.mono ?_
    rintro e w1 ⟨rfl, hb1⟩
    have HB1 := Lib.hid hb1
    clear hb1
    go_wp2
    go_ret
    exact ⟨rfl, HB1.out⟩
set_option maxHeartbeats 16000000 in
set_option maxRecDepth 100000 in
theorem tells_few (w : World) (a1 a2 a3 a4 : Addr) (hE : EnvT w a1 a2 a3 a4) (n id : Int) (hwi : (Lit.int .i64 id).wf = true) (Ab Al : Option Addr) (nb cb nl cl : Nat) (l : List HdrV) (lb : List UInt8) (hl : H6.Hr w Al nl l) (hb : Rd w w.heap.size Ab nb lb) (h1 : nl ≤ 20) (h2 : nb ≤ 3000) :
    Calls Tryz.prog 9 #[.int .i64 n, .int .i64 id, .slice Al nl cl, .slice Ab nb cb] w fun e w' => e = .returned (.bool true) ∧ Below w.heap.size w w' := by
  have HE := Lib.hid hE
  have HF := Lib.hid (first_any w hE.wd)
  have HL := Lib.hid hl
  have HR := Lib.hid hb
  have HWi := Lib.hid hwi
  have HH := Lib.hid (show _ ∧ _ from ⟨h1, h2⟩)
  have k1 : ((20 : Int) < (nl : Int)) = False := by simp only [eq_iff_iff, iff_false]; omega
  have k2 : ((3000 : Int) < (nb : Int)) = False := by simp only [eq_iff_iff, iff_false]; omega
  have hee1 := eql_same a1
  have hee2 := eql_same a2
  have hee3 := eql_same a3
  have hee4 := eql_same a4
  clear hE hl hb hwi h1 h2
  go_enter Tryz.func9, Tryz.ntmps9
  go_wp2_with fail
  refine HF.out.mono ?_
  rintro e w1 ⟨rfl, hb1⟩
  have HB1 := Lib.hid hb1
  clear hb1
  go_upto_region 5 with fail
  clear k1 k2
  go_loopw [10] (fun iv wr => Hid (TlR w nl iv wr)) (fun iv _ => nl - (intOf iv).toNat)
  case atStart => exact ⟨0, rfl, Nat.zero_le _, HB1.out⟩
  case round =>
    obtain ⟨j, rfl, hjn, hbr⟩ := hrel
    have HBr := Lib.hid hbr
    have HJ := Lib.hid hjn
    clear hbr hjn
    by_cases hlt : j < nl
    · have hltI : (j : Int) < (nl : Int) := by omega
      have HLt := Lib.hid hlt
      have hH := HL.out.below HBr.out
      obtain ⟨ad, rfl, a0, a1', _⟩ := hH.at_ (k := j) hlt
      have i0 : (0 : Int) ≤ (j : Int) := by omega
      have hj1 : wrap64 ((j : Int) + 1) = ((j + 1 : Nat) : Int) := by have := HH.out.1; unfold wrap64; omega
      have HJ1 := Lib.hid hj1
      clear hH hlt hj1
      generalize l.getD j ⟨⟨#[]⟩, ⟨#[]⟩, false⟩ = x at *
      obtain ⟨xn, xv, xb⟩ := x
      simp only at a0 a1'
      have hc : ((300 : Int) < (xn.size : Int)) = True ∨ (((300 : Int) < (xn.size : Int)) = False ∧ ((300 : Int) < (xv.size : Int)) = True) ∨ (((300 : Int) < (xn.size : Int)) = False ∧ ((300 : Int) < (xv.size : Int)) = False) := by
        simp only [eq_iff_iff, iff_true, iff_false]
        omega
      rcases hc with h3 | ⟨h3, h4⟩ | ⟨h3, h4⟩
      · go_wp2
        go_ret
        exact ⟨rfl, HBr.out⟩
      · go_wp2
        go_ret
        exact ⟨rfl, HBr.out⟩
      · go_wp2_with fail
        rw [HJ1.out]
        exact ⟨⟨j + 1, rfl, HLt.out, HBr.out⟩, by have := HLt.out; simp [intOf]; omega⟩
    · obtain rfl : j = nl := by have := HJ.out; omega
      have hge : ¬ ((j : Int) < (j : Int)) := by omega
      have HEr := Lib.hid (HE.out.below HBr.out)
      clear hlt
      go_wp2_with fail
      clear hge
      refine (new1_any wr 65535 0 (by decide) (by decide)).mono ?_
      rintro e w2 ⟨b, ow2, L2, rfl, hc2, hb2, ho2⟩
      have HB2 := Lib.hid (HBr.out.trans (hb2.mono HBr.out.size))
      have HC2 := Lib.hid hc2
      have HO2 := Lib.hid (show ∀ g, g < w.heap.size → ow2 g = .no from fun g hg => ho2 g (Nat.lt_of_lt_of_le hg HBr.out.size))
      have HEw2 := Lib.hid (HEr.out.wd.of hb2 ho2)
      have HG2 := Lib.hid (show Er4 w2 a1 a2 a3 a4 from ⟨(HEr.out.below hb2).role, (HEr.out.below hb2).num, (HEr.out.below hb2).gone, (HEr.out.below hb2).str⟩)
      clear hb2 hc2 ho2
      go_wp2_with fail
      refine (new2_any w2 65535 1 (by decide) (by decide)).mono ?_
      rintro e w3 ⟨b', ow3, L3, rfl, hc3, hb3, _⟩
      have HC3 := Lib.hid hc3
      have HD3 := Lib.hid (HC2.out.below hb3)
      have HF3 := Lib.hid (Fr.below hb3 ow2)
      have HG3 := Lib.hid (HG2.out.fr HEw2.out HF3.out)
      clear hb3 hc3
      go_wp2_with fail
      refine (open_role HC3.out rfl rfl HG3.out.role _ _).mono ?_
      rintro e w4 ⟨rfl, m4, hw4⟩
      have HC4 := Lib.hid (show CN w4 ow3 b' _ L3 from hw4 ▸ HC3.out.drewN m4)
      have HD4 := Lib.hid (show CN w4 ow2 b _ L2 from hw4 ▸ HD3.out.drewN m4)
      have HF4 := Lib.hid (show Fr w2 ow2 w4 ow2 from hw4 ▸ (HF3.out.trans (Fr.drewN w3 ow2 m4)))
      have HG4 := Lib.hid (HG2.out.fr HEw2.out HF4.out)
      clear hw4 HC3 HD3 HF3 HG3
      go_wp2_with fail
      refine (answer_role HD4.out rfl rfl rfl HG4.out.role id HWi.out _ _).mono ?_
      rintro e w5 ⟨rfl, m5, hw5⟩
      have HC5 := Lib.hid (show CN w5 ow3 b' _ L3 from hw5 ▸ HC4.out.drewN m5)
      have HD5 := Lib.hid (show CN w5 ow2 b _ L2 from hw5 ▸ HD4.out.drewN m5)
      have HF5 := Lib.hid (show Fr w2 ow2 w5 ow2 from hw5 ▸ (HF4.out.trans (Fr.drewN w4 ow2 m5)))
      have HG5 := Lib.hid (HG2.out.fr HEw2.out HF5.out)
      clear hw5 HC4 HD4 HF4 HG4
      have g1 := HG5.out.role
      have g4 := HG5.out.str
      unfold RoleAt at g1
      unfold StreamAt at g4
      have HA := Lib.hid (fun k => answer_none (HC5.out.drewN k) rfl rfl rfl (show StreamAt (w5.drewN k) a4 from HG5.out.str) id HWi.out (.slice Al j cl) (.bool true))
      have HSd := Lib.hid (fun k => send_err (sending_none (HD5.out.drewN k) rfl rfl (show StreamAt (w5.drewN k) a4 from HG5.out.str) id HWi.out) (.slice Ab nb cb) (.bool true))
      have HTr := Lib.hid (fun k => trail_err (sending_none (HD5.out.drewN k) rfl rfl (show StreamAt (w5.drewN k) a4 from HG5.out.str) id HWi.out) (.slice Al j cl))
      have HRs := Lib.hid (fun k => reset_err (n := .int .i64 n) (there_none (HD5.out.drewN k) rfl rfl (show StreamAt (w5.drewN k) a4 from HG5.out.str) id HWi.out))
      have HAt := Lib.hid (fun k => ate_err (n := .int .i64 n) (there_none (HD5.out.drewN k) rfl rfl (show StreamAt (w5.drewN k) a4 from HG5.out.str) id HWi.out))
      go_wp2_with fail
      go_quiet (first
        | (go_at_call 21; exact Calls.quiet_of (HA.out _))
        | (go_at_call 27; exact Calls.quiet_of (HSd.out _))
        | (go_at_call 30; exact Calls.quiet_of (HTr.out _))
        | (go_at_call 31; exact Calls.quiet_of (HRs.out _))
        | (go_at_call 19; exact Calls.quiet_of (HAt.out _)))
      have HD6 := Lib.hid (HD5.out.drewN nq)
      have HF6 := Lib.hid (HF5.out.trans (Fr.drewN w5 ow2 nq))
      clear HA HSd HTr HRs HAt g1 g4 HC5 HD5 HF5 HG5
      generalize w5.drewN nq = w6 at *
      have HG6 := Lib.hid (HG2.out.fr HEw2.out HF6.out)
      have hbel6 := HF6.out.toBelow HB2.out HO2.out
      have HR6 := Lib.hid ((HR.out.below hbel6).more hbel6.size)
      have HNo := Lib.hid (show (newM 1 65535 0).out.length ≤ 1000 by decide)
      clear hbel6
      by_cases h8 : nb = 8
      · subst h8
        go_wp2_with fail
        refine (ping_ok HD6.out rfl Ab cb lb HR6.out (by have := HNo.out; omega)).mono ?_
        intro e w7 hp
        obtain rfl := hp.ret
        obtain ⟨owp, Lp, _, hc7, hf7⟩ := hp
        have HX := Lib.hid (show ∃ op : List UInt8, op.length ≤ 2000 ∧ CN w7 owp b (tM op) Lp from ⟨_, by rw [List.length_append, frameB_len, HR6.out.1]; have := HNo.out; omega, hc7⟩)
        have HF7 := Lib.hid (HF6.out.trans hf7)
        clear hc7 hf7 HD6 HF6 HG6 HR6
        obtain ⟨op, hop, hc7⟩ := HX.out
        have HOp := Lib.hid hop
        have HD7 := Lib.hid hc7
        have HG7 := Lib.hid (HG2.out.fr HEw2.out HF7.out)
        have g2 := HG7.out.num
        unfold NumAt at g2
        clear hop hc7 HX
        go_wp2_with fail
        clear g2
        refine (post_any w7).mono ?_
        rintro e w8 ⟨rfl, hr8, hb8⟩
        have HD8 := Lib.hid (HD7.out.below hb8)
        have HF8 := Lib.hid (HF7.out.trans (Fr.below hb8 owp))
        have HR8 := Lib.hid hr8
        have HN8 := Lib.hid (HD7.out.new w7.heap.size (Nat.le_refl _))
        clear hr8 hb8 HD7 HF7 HG7
        go_wp2_with fail
        refine (copen_any w8 owp b (tM op) Lp (some ⟨w7.heap.size, 0, none⟩) 3 hs3 ix3n false (HEw2.out.fr HF8.out) HD8.out rfl rfl rfl rfl (show (0 : Int) < 2147483647 by decide) (show 1 ≤ 2147483647 by decide) (fun s hs => by cases hs) List.nodup_nil (show (0 : Int) ≤ 65535 ∧ (65535 : Int) ≤ 2147483647 by decide) (show (0 : Int) ≤ 65535 ∧ (65535 : Int) ≤ 2147483647 by decide) (Nat.zero_le _) (by show op.length ≤ _; have := HOp.out; omega) HR8.out (fun ad e => by injection e with e; rw [← e]; exact HN8.out) ix83 hs3_nv (by decide) (by decide) hs3_sz hs3_hsz szs3 opn3).mono ?_
        intro e w9 hp
        obtain rfl := hp.ret
        obtain ⟨ow9, L9, _, hc9, hf9⟩ := hp
        rw [show ((nxt (tM op) : Nat) : Int) = 1 from rfl]
        have HD9 := Lib.hid hc9
        have HF9 := Lib.hid (HF8.out.trans hf9)
        clear hc9 hf9 HD8 HF8 HR8 HN8
        go_wp2_with fail
        refine (post_any w9).mono ?_
        rintro e w10 ⟨rfl, hr10, hb10⟩
        have HD10 := Lib.hid (HD9.out.below hb10)
        have HF10 := Lib.hid (HF9.out.trans (Fr.below hb10 ow9))
        have HR10 := Lib.hid hr10
        have HN10 := Lib.hid (HD9.out.new w9.heap.size (Nat.le_refl _))
        clear hr10 hb10 HD9 HF9
        go_wp2_with fail
        refine (copen_any w10 ow9 b (opcM (tM op) false ix3n) L9 (some ⟨w9.heap.size, 0, none⟩) 3 hs3 ix3n true (HEw2.out.fr HF10.out) HD10.out rfl rfl rfl rfl (show (1 : Int) < 2147483647 by decide) (show 3 ≤ 2147483647 by decide) (fun s hs => by rcases List.mem_singleton.1 hs with rfl; exact (show (1 : Nat) ≠ 3 by decide)) (show ([1] : List Nat).Nodup by decide) (show (0 : Int) ≤ 65535 ∧ (65535 : Int) ≤ 2147483647 by decide) (show (0 : Int) ≤ 65535 ∧ (65535 : Int) ≤ 2147483647 by decide) (show 1 ≤ 100000 by decide) (by show (op ++ frameB 1 (hfl false) 1 (ixB ix3n)).length ≤ _; rw [List.length_append, frameB_len]; have := HOp.out; simp [ixB, ix3n]; omega) HR10.out (fun ad e => by injection e with e; rw [← e]; exact HN10.out) ix83 hs3_nv (by decide) (by decide) hs3_sz hs3_hsz szs3 opn3).mono ?_
        intro e w11 hp
        obtain rfl := hp.ret
        obtain ⟨ow11, L11, _, hc11, hf11⟩ := hp
        rw [show ((nxt (opcM (tM op) false ix3n) : Nat) : Int) = 3 from rfl]
        have HD11 := Lib.hid (show CN w11 ow11 b (t2M op) L11 from hc11)
        have HF11 := Lib.hid (HF10.out.trans hf11)
        clear hc11 hf11 HD10 HF10 HR10 HN10
        have HG11 := Lib.hid (HG2.out.fr HEw2.out HF11.out)
        have hbel := HF11.out.toBelow HB2.out HO2.out
        have HR11 := Lib.hid ((HR.out.below hbel).more hbel.size)
        clear hbel
        go_wp2_with fail
        have HS11 := Lib.hid (show w11.cell? ⟨3, 0, none⟩ = some (goneV a4) from HG11.out.str)
        have HS11d := Lib.hid (show w11.drew.cell? ⟨3, 0, none⟩ = some (goneV a4) from HG11.out.str)
        have H3 := Lib.hid (send_err (sending_shut HD11.out.drew rfl _ 3 (t2_second op) (show (3 : Nat) ≠ 1 by decide) (show StreamAt w11.drew a4 from HG11.out.str) wf3) (.slice Ab 8 cb) (.bool false))
        have H3' := Lib.hid (send_err (sending_shut HD11.out rfl _ 3 (t2_second op) (show (3 : Nat) ≠ 1 by decide) HG11.out.str wf3) (.slice Ab 8 cb) (.bool false))
        go_region_held3 (fun W' => W'.cell? ⟨3, 0, none⟩ = some (goneV a4)) (first | with_reducible exact HS11.out | with_reducible exact HS11d.out | with_reducible exact HS13.out | with_reducible exact HS13d.out | with_reducible exact HS14.out | with_reducible exact HS14d.out | with_reducible exact HS15.out | with_reducible exact HS15d.out) (first
          | (go_at_call 27
             first | with_reducible refine Calls.mono H3.out ?_ | with_reducible refine Calls.mono H3'.out ?_
             rintro e w13 ⟨rfl, m13, hw13⟩
             have hw13' : ∃ k, w13 = w11.drewN k := by first | exact ⟨_, hw13⟩ | exact ⟨1 + m13, by rw [hw13, ← drewN_add]; rfl⟩
             obtain ⟨k13, hk13⟩ := hw13'
             have HD13 := Lib.hid (show CN w13 ow11 b (t2M op) L11 from hk13 ▸ HD11.out.drewN k13)
             have HF13 := Lib.hid (show Fr w2 ow2 w13 ow11 from hk13 ▸ (HF11.out.trans (Fr.drewN w11 ow11 k13)))
             have HR13 := Lib.hid (show Rd w13 w13.heap.size Ab 8 lb from hk13 ▸ HR11.out)
             have HG13 := Lib.hid (HG2.out.fr HEw2.out HF13.out)
             have HS13 := Lib.hid (show w13.cell? ⟨3, 0, none⟩ = some (goneV a4) from HG13.out.str)
             have HS13d := Lib.hid (show w13.drew.cell? ⟨3, 0, none⟩ = some (goneV a4) from HG13.out.str)
             have H1a := Lib.hid (send_ok w13 ow11 b (t2M op) L11 HD13.out rfl _ 1 (t2_first op) rfl wf1' Ab 8 cb lb true HR13.out (by have := HH.out.2; show 0 + 8 ≤ _; omega))
             have H1b := Lib.hid (send_ok w13.drew ow11 b (t2M op) L11 HD13.out.drew rfl _ 1 (t2_first op) rfl wf1' Ab 8 cb lb true HR13.out.drew (by have := HH.out.2; show 0 + 8 ≤ _; omega))
             clear hw13 hk13 H3 H3')
          | (go_at_call 27
             first | with_reducible refine Calls.mono H1a.out ?_ | with_reducible refine Calls.mono H1b.out ?_
             intro e w14 hp
             obtain rfl := hp.ret
             obtain ⟨ow14, L14, _, hc14, hf14⟩ := hp
             have hf14' : Fr w13 ow11 w14 ow14 := by first | exact hf14 | exact (Fr.drewN w13 ow11 1).trans hf14
             have HD14 := Lib.hid (show CN w14 ow14 b (t3M op lb) L14 from hc14)
             have HF14 := Lib.hid (HF13.out.trans hf14')
             have HG14 := Lib.hid (HG2.out.fr HEw2.out HF14.out)
             have HS14 := Lib.hid (show w14.cell? ⟨3, 0, none⟩ = some (goneV a4) from HG14.out.str)
             have HS14d := Lib.hid (show w14.drew.cell? ⟨3, 0, none⟩ = some (goneV a4) from HG14.out.str)
             have H5a := Lib.hid (send_err (sending_shut HD14.out rfl _ 1 (t3_first op lb) (show (2 : Nat) ≠ 1 by decide) HG14.out.str wf1') (.slice Ab 8 cb) (.bool true))
             have H5b := Lib.hid (send_err (sending_shut HD14.out.drew rfl _ 1 (t3_first op lb) (show (2 : Nat) ≠ 1 by decide) (show StreamAt w14.drew a4 from HG14.out.str) wf1') (.slice Ab 8 cb) (.bool true))
             clear hc14 hf14 hf14' H1a H1b HD13 HR13)
          | (go_at_call 27
             first | with_reducible refine Calls.mono H5a.out ?_ | with_reducible refine Calls.mono H5b.out ?_
             rintro e w15 ⟨rfl, m15, hw15⟩
             have hw15' : ∃ k, w15 = w14.drewN k := by first | exact ⟨_, hw15⟩ | exact ⟨1 + m15, by rw [hw15, ← drewN_add]; rfl⟩
             obtain ⟨k15, hk15⟩ := hw15'
             have HD15 := Lib.hid (show CN w15 ow14 b (t3M op lb) L14 from hk15 ▸ HD14.out.drewN k15)
             have HF15 := Lib.hid (show Fr w2 ow2 w15 ow14 from hk15 ▸ (HF14.out.trans (Fr.drewN w14 ow14 k15)))
             have HG15 := Lib.hid (HG2.out.fr HEw2.out HF15.out)
             have HS15 := Lib.hid (show w15.cell? ⟨3, 0, none⟩ = some (goneV a4) from HG15.out.str)
             have HS15d := Lib.hid (show w15.drew.cell? ⟨3, 0, none⟩ = some (goneV a4) from HG15.out.str)
             have HWa := Lib.hid (twait w15 ow14 b op L14 8 lb HD15.out HR11.out.1)
             have HWb := Lib.hid (twait w15.drew ow14 b op L14 8 lb HD15.out.drew HR11.out.1)
             clear hw15 hk15 H5a H5b HD14 HS14 HS14d HF14)
          | (go_at_call 29
             first | with_reducible refine Calls.mono HWa.out ?_ | with_reducible refine Calls.mono HWb.out ?_
             rintro e w16 ⟨rfl, hw16⟩
             subst w16)
          | fail)
        all_goals
          have HOut := Lib.hid (show (t3M op lb).out.length ≤ 3000 by have h := t2_len op; have := HOp.out; show (t2M op).out.length ≤ _; omega)
          clear HS15 HS15d HWa HWb HS13 HS13d HS11 HS11d
          have g2 := HG15.out.num
          unfold NumAt at g2
          by_cases hf : 0 ≤ n ∧ n < 4294967296
          · obtain ⟨nn, rfl⟩ := Int.eq_ofNat_of_zero_le hf.1
            have hnn : nn < 4294967296 := by omega
            have q1 : ((0 : Int) ≤ (nn : Int)) = True := by simp
            have q2 : ((nn : Int) < 4294967296) = True := by simp; omega
            have q2' : (nn < 4294967296) = True := by simp; omega
            clear hf
            go_wp2_with fail
            refine (bye_ok HD15.out rfl nn hnn (show 3 ≤ 2147483647 by decide) (by have := HOut.out; omega)).mono ?_
            intro e w16 hp
            obtain rfl := hp.ret
            obtain ⟨ow16, L16, _, hc16, hf16⟩ := hp
            have HD16 := Lib.hid hc16
            have HF16 := Lib.hid (HF15.out.trans hf16)
            clear hc16 hf16 HD15 HF15 HG15 g2
            have HG16 := Lib.hid (HG2.out.fr HEw2.out HF16.out)
            have g2 := HG16.out.num
            unfold NumAt at g2
            go_wp2_with fail
            clear g2
            refine (post_any w16).mono ?_
            rintro e w17 ⟨rfl, _, hb17⟩
            have HD17 := Lib.hid (HD16.out.below hb17)
            have HF17 := Lib.hid (HF16.out.trans (Fr.below hb17 ow16))
            have HG17 := Lib.hid (HG2.out.fr HEw2.out HF17.out)
            clear hb17 HD16 HF16 HG16
            go_wp2_with fail
            refine (open_gone HD17.out rfl rfl (.inr ⟨rfl, rfl⟩) HG17.out.gone _ _).mono ?_
            rintro e w18 ⟨rfl, m18, hw18⟩
            have HD18 := Lib.hid (show CN w18 ow16 b _ L16 from hw18 ▸ HD17.out.drewN m18)
            have HF18 := Lib.hid (show Fr w2 ow2 w18 ow16 from hw18 ▸ (HF17.out.trans (Fr.drewN w17 ow16 m18)))
            have HG18 := Lib.hid (HG2.out.fr HEw2.out HF18.out)
            clear hw18 HD17 HF17 HG17
            have g2 := HG18.out.num
            have g3 := HG18.out.gone
            unfold NumAt at g2
            unfold GoneAt at g3
            have HAt := Lib.hid (fun k => ate_bad (HD18.out.drewN k) rfl (tS lb) 1 rfl 1 (.inr (show (0 : Int) < 1 by decide)) (show NumAt (w18.drewN k) a2 from HG18.out.num) wf1')
            go_wp2_with fail
            go_quiet ((go_at_call 19; exact Calls.quiet_of (HAt.out _)))
            go_wp2
            go_ret
            exact ⟨rfl, below_drewN (HF18.out.toBelow HB2.out HO2.out) _⟩
          · have hfc : ((0 : Int) ≤ n) = False ∨ (((0 : Int) ≤ n) = True ∧ (n < 4294967296) = False) := by
              simp only [eq_iff_iff, iff_true, iff_false]
              omega
            go_wp2_with fail
            refine (bye_bad HD15.out rfl HG15.out.num n hf).mono ?_
            rintro e w16 ⟨rfl, m16, hw16⟩
            have HD16 := Lib.hid (show CN w16 ow14 b (t3M op lb) L14 from hw16 ▸ HD15.out.drewN m16)
            have HF16 := Lib.hid (show Fr w2 ow2 w16 ow14 from hw16 ▸ (HF15.out.trans (Fr.drewN w15 ow14 m16)))
            have HG16 := Lib.hid (HG2.out.fr HEw2.out HF16.out)
            clear hw16 HD15 HF15 HG15 g2 hf
            have g2 := HG16.out.num
            unfold NumAt at g2
            have hne2 := neq_same a2
            rcases hfc with q1 | ⟨q1, q2⟩
            all_goals
              go_wp2_with fail
              clear g2
              refine (post_any w16).mono ?_
              rintro e w17 ⟨rfl, hr17, hb17⟩
              have HD17 := Lib.hid (HD16.out.below hb17)
              have HF17 := Lib.hid (HF16.out.trans (Fr.below hb17 ow14))
              have HR17 := Lib.hid hr17
              have HN17 := Lib.hid (HD16.out.new w16.heap.size (Nat.le_refl _))
              clear hr17 hb17 HD16 HF16 HG16
              go_wp2_with fail
              refine (copen_any w17 ow14 b (t3M op lb) L14 (some ⟨w16.heap.size, 0, none⟩) 3 hs3 ix3n false (HEw2.out.fr HF17.out) HD17.out rfl rfl rfl rfl (show (2 : Int) < 2147483647 by decide) (show 5 ≤ 2147483647 by decide) (fun s hs => by rw [t3_strs] at hs; rcases List.mem_cons.1 hs with rfl | hs; exact (show (1 : Nat) ≠ 5 by decide); rcases List.mem_singleton.1 hs with rfl; exact (show (3 : Nat) ≠ 5 by decide)) (show ([1, 3] : List Nat).Nodup by decide) (show (0 : Int) ≤ 65535 ∧ (65535 : Int) ≤ 2147483647 by decide) (show (0 : Int) ≤ 65535 ∧ (65535 : Int) ≤ 2147483647 by decide) (show 2 ≤ 100000 by decide) (by have := HOut.out; omega) HR17.out (fun ad e => by injection e with e; rw [← e]; exact HN17.out) ix83 hs3_nv (by decide) (by decide) hs3_sz hs3_hsz szs3 opn3).mono ?_
              intro e w18 hp
              obtain rfl := hp.ret
              obtain ⟨ow18, L18, _, hc18, hf18⟩ := hp
              have HD18 := Lib.hid hc18
              have HF18 := Lib.hid (HF17.out.trans hf18)
              clear hc18 hf18 HD17 HF17 HR17 HN17
              have HG18 := Lib.hid (HG2.out.fr HEw2.out HF18.out)
              have g2 := HG18.out.num
              have g3 := HG18.out.gone
              unfold NumAt at g2
              unfold GoneAt at g3
              have hen := eql_nil3 a3
              have HAt := Lib.hid (fun k => ate_bad (HD18.out.drewN k) rfl (tS lb) 1 rfl 1 (.inr (show (0 : Int) < 1 by decide)) (show NumAt (w18.drewN k) a2 from HG18.out.num) wf1')
              go_wp2_with fail
              go_quiet ((go_at_call 19; exact Calls.quiet_of (HAt.out _)))
              go_wp2
              go_ret
              exact ⟨rfl, below_drewN (HF18.out.toBelow HB2.out HO2.out) _⟩

      · have k8 : ((nb : Int) == 8) = false := by simp; omega
        have k8' : ((nb : Int) = 8) = False := by simp; omega
        go_wp2_with fail
        refine (ping_bad HD6.out rfl HG6.out.num Ab nb cb h8).mono ?_
        rintro e w7 ⟨rfl, m7, hw7⟩
        obtain ⟨owp, Lp, howp, hLp⟩ : ∃ o L, o = ow2 ∧ L = L2 := ⟨_, _, rfl, rfl⟩
        have HX := Lib.hid (show ∃ op : List UInt8, op.length ≤ 2000 ∧ CN w7 owp b (tM op) Lp from ⟨(newM 1 65535 0).out, by have := HNo.out; omega, by rw [howp, hLp, hw7]; exact HD6.out.drewN m7⟩)
        have HF7 := Lib.hid (show Fr w2 ow2 w7 owp by rw [howp, hw7]; exact HF6.out.trans (Fr.drewN w6 ow2 m7))
        clear hw7 howp hLp h8 HD6 HF6 HG6 HR6
        obtain ⟨op, hop, hc7⟩ := HX.out
        have HOp := Lib.hid hop
        have HD7 := Lib.hid hc7
        have HG7 := Lib.hid (HG2.out.fr HEw2.out HF7.out)
        have g2 := HG7.out.num
        unfold NumAt at g2
        clear hop hc7 HX
        go_wp2_with fail
        clear g2
        refine (post_any w7).mono ?_
        rintro e w8 ⟨rfl, hr8, hb8⟩
        have HD8 := Lib.hid (HD7.out.below hb8)
        have HF8 := Lib.hid (HF7.out.trans (Fr.below hb8 owp))
        have HR8 := Lib.hid hr8
        have HN8 := Lib.hid (HD7.out.new w7.heap.size (Nat.le_refl _))
        clear hr8 hb8 HD7 HF7 HG7
        go_wp2_with fail
        refine (copen_any w8 owp b (tM op) Lp (some ⟨w7.heap.size, 0, none⟩) 3 hs3 ix3n false (HEw2.out.fr HF8.out) HD8.out rfl rfl rfl rfl (show (0 : Int) < 2147483647 by decide) (show 1 ≤ 2147483647 by decide) (fun s hs => by cases hs) List.nodup_nil (show (0 : Int) ≤ 65535 ∧ (65535 : Int) ≤ 2147483647 by decide) (show (0 : Int) ≤ 65535 ∧ (65535 : Int) ≤ 2147483647 by decide) (Nat.zero_le _) (by show op.length ≤ _; have := HOp.out; omega) HR8.out (fun ad e => by injection e with e; rw [← e]; exact HN8.out) ix83 hs3_nv (by decide) (by decide) hs3_sz hs3_hsz szs3 opn3).mono ?_
        intro e w9 hp
        obtain rfl := hp.ret
        obtain ⟨ow9, L9, _, hc9, hf9⟩ := hp
        rw [show ((nxt (tM op) : Nat) : Int) = 1 from rfl]
        have HD9 := Lib.hid hc9
        have HF9 := Lib.hid (HF8.out.trans hf9)
        clear hc9 hf9 HD8 HF8 HR8 HN8
        go_wp2_with fail
        refine (post_any w9).mono ?_
        rintro e w10 ⟨rfl, hr10, hb10⟩
        have HD10 := Lib.hid (HD9.out.below hb10)
        have HF10 := Lib.hid (HF9.out.trans (Fr.below hb10 ow9))
        have HR10 := Lib.hid hr10
        have HN10 := Lib.hid (HD9.out.new w9.heap.size (Nat.le_refl _))
        clear hr10 hb10 HD9 HF9
        go_wp2_with fail
        refine (copen_any w10 ow9 b (opcM (tM op) false ix3n) L9 (some ⟨w9.heap.size, 0, none⟩) 3 hs3 ix3n true (HEw2.out.fr HF10.out) HD10.out rfl rfl rfl rfl (show (1 : Int) < 2147483647 by decide) (show 3 ≤ 2147483647 by decide) (fun s hs => by rcases List.mem_singleton.1 hs with rfl; exact (show (1 : Nat) ≠ 3 by decide)) (show ([1] : List Nat).Nodup by decide) (show (0 : Int) ≤ 65535 ∧ (65535 : Int) ≤ 2147483647 by decide) (show (0 : Int) ≤ 65535 ∧ (65535 : Int) ≤ 2147483647 by decide) (show 1 ≤ 100000 by decide) (by show (op ++ frameB 1 (hfl false) 1 (ixB ix3n)).length ≤ _; rw [List.length_append, frameB_len]; have := HOp.out; simp [ixB, ix3n]; omega) HR10.out (fun ad e => by injection e with e; rw [← e]; exact HN10.out) ix83 hs3_nv (by decide) (by decide) hs3_sz hs3_hsz szs3 opn3).mono ?_
        intro e w11 hp
        obtain rfl := hp.ret
        obtain ⟨ow11, L11, _, hc11, hf11⟩ := hp
        rw [show ((nxt (opcM (tM op) false ix3n) : Nat) : Int) = 3 from rfl]
        have HD11 := Lib.hid (show CN w11 ow11 b (t2M op) L11 from hc11)
        have HF11 := Lib.hid (HF10.out.trans hf11)
        clear hc11 hf11 HD10 HF10 HR10 HN10
        have HG11 := Lib.hid (HG2.out.fr HEw2.out HF11.out)
        have hbel := HF11.out.toBelow HB2.out HO2.out
        have HR11 := Lib.hid ((HR.out.below hbel).more hbel.size)
        clear hbel
        go_wp2_with fail
        have HS11 := Lib.hid (show w11.cell? ⟨3, 0, none⟩ = some (goneV a4) from HG11.out.str)
        have HS11d := Lib.hid (show w11.drew.cell? ⟨3, 0, none⟩ = some (goneV a4) from HG11.out.str)
        have H3 := Lib.hid (send_err (sending_shut HD11.out.drew rfl _ 3 (t2_second op) (show (3 : Nat) ≠ 1 by decide) (show StreamAt w11.drew a4 from HG11.out.str) wf3) (.slice Ab nb cb) (.bool false))
        have H3' := Lib.hid (send_err (sending_shut HD11.out rfl _ 3 (t2_second op) (show (3 : Nat) ≠ 1 by decide) HG11.out.str wf3) (.slice Ab nb cb) (.bool false))
        go_region_held3 (fun W' => W'.cell? ⟨3, 0, none⟩ = some (goneV a4)) (first | with_reducible exact HS11.out | with_reducible exact HS11d.out | with_reducible exact HS13.out | with_reducible exact HS13d.out | with_reducible exact HS14.out | with_reducible exact HS14d.out | with_reducible exact HS15.out | with_reducible exact HS15d.out) (first
          | (go_at_call 27
             first | with_reducible refine Calls.mono H3.out ?_ | with_reducible refine Calls.mono H3'.out ?_
             rintro e w13 ⟨rfl, m13, hw13⟩
             have hw13' : ∃ k, w13 = w11.drewN k := by first | exact ⟨_, hw13⟩ | exact ⟨1 + m13, by rw [hw13, ← drewN_add]; rfl⟩
             obtain ⟨k13, hk13⟩ := hw13'
             have HD13 := Lib.hid (show CN w13 ow11 b (t2M op) L11 from hk13 ▸ HD11.out.drewN k13)
             have HF13 := Lib.hid (show Fr w2 ow2 w13 ow11 from hk13 ▸ (HF11.out.trans (Fr.drewN w11 ow11 k13)))
             have HR13 := Lib.hid (show Rd w13 w13.heap.size Ab nb lb from hk13 ▸ HR11.out)
             have HG13 := Lib.hid (HG2.out.fr HEw2.out HF13.out)
             have HS13 := Lib.hid (show w13.cell? ⟨3, 0, none⟩ = some (goneV a4) from HG13.out.str)
             have HS13d := Lib.hid (show w13.drew.cell? ⟨3, 0, none⟩ = some (goneV a4) from HG13.out.str)
             have H1a := Lib.hid (send_ok w13 ow11 b (t2M op) L11 HD13.out rfl _ 1 (t2_first op) rfl wf1' Ab nb cb lb true HR13.out (by have := HH.out.2; show 0 + nb ≤ _; omega))
             have H1b := Lib.hid (send_ok w13.drew ow11 b (t2M op) L11 HD13.out.drew rfl _ 1 (t2_first op) rfl wf1' Ab nb cb lb true HR13.out.drew (by have := HH.out.2; show 0 + nb ≤ _; omega))
             clear hw13 hk13 H3 H3')
          | (go_at_call 27
             first | with_reducible refine Calls.mono H1a.out ?_ | with_reducible refine Calls.mono H1b.out ?_
             intro e w14 hp
             obtain rfl := hp.ret
             obtain ⟨ow14, L14, _, hc14, hf14⟩ := hp
             have hf14' : Fr w13 ow11 w14 ow14 := by first | exact hf14 | exact (Fr.drewN w13 ow11 1).trans hf14
             have HD14 := Lib.hid (show CN w14 ow14 b (t3M op lb) L14 from hc14)
             have HF14 := Lib.hid (HF13.out.trans hf14')
             have HG14 := Lib.hid (HG2.out.fr HEw2.out HF14.out)
             have HS14 := Lib.hid (show w14.cell? ⟨3, 0, none⟩ = some (goneV a4) from HG14.out.str)
             have HS14d := Lib.hid (show w14.drew.cell? ⟨3, 0, none⟩ = some (goneV a4) from HG14.out.str)
             have H5a := Lib.hid (send_err (sending_shut HD14.out rfl _ 1 (t3_first op lb) (show (2 : Nat) ≠ 1 by decide) HG14.out.str wf1') (.slice Ab nb cb) (.bool true))
             have H5b := Lib.hid (send_err (sending_shut HD14.out.drew rfl _ 1 (t3_first op lb) (show (2 : Nat) ≠ 1 by decide) (show StreamAt w14.drew a4 from HG14.out.str) wf1') (.slice Ab nb cb) (.bool true))
             clear hc14 hf14 hf14' H1a H1b HD13 HR13)
          | (go_at_call 27
             first | with_reducible refine Calls.mono H5a.out ?_ | with_reducible refine Calls.mono H5b.out ?_
             rintro e w15 ⟨rfl, m15, hw15⟩
             have hw15' : ∃ k, w15 = w14.drewN k := by first | exact ⟨_, hw15⟩ | exact ⟨1 + m15, by rw [hw15, ← drewN_add]; rfl⟩
             obtain ⟨k15, hk15⟩ := hw15'
             have HD15 := Lib.hid (show CN w15 ow14 b (t3M op lb) L14 from hk15 ▸ HD14.out.drewN k15)
             have HF15 := Lib.hid (show Fr w2 ow2 w15 ow14 from hk15 ▸ (HF14.out.trans (Fr.drewN w14 ow14 k15)))
             have HG15 := Lib.hid (HG2.out.fr HEw2.out HF15.out)
             have HS15 := Lib.hid (show w15.cell? ⟨3, 0, none⟩ = some (goneV a4) from HG15.out.str)
             have HS15d := Lib.hid (show w15.drew.cell? ⟨3, 0, none⟩ = some (goneV a4) from HG15.out.str)
             have HWa := Lib.hid (twait w15 ow14 b op L14 nb lb HD15.out HR11.out.1)
             have HWb := Lib.hid (twait w15.drew ow14 b op L14 nb lb HD15.out.drew HR11.out.1)
             clear hw15 hk15 H5a H5b HD14 HS14 HS14d HF14)
          | (go_at_call 29
             first | with_reducible refine Calls.mono HWa.out ?_ | with_reducible refine Calls.mono HWb.out ?_
             rintro e w16 ⟨rfl, hw16⟩
             subst w16)
          | fail)
        all_goals
          have HOut := Lib.hid (show (t3M op lb).out.length ≤ 3000 by have h := t2_len op; have := HOp.out; show (t2M op).out.length ≤ _; omega)
          clear HS15 HS15d HWa HWb HS13 HS13d HS11 HS11d
          have g2 := HG15.out.num
          unfold NumAt at g2
          by_cases hf : 0 ≤ n ∧ n < 4294967296
          · obtain ⟨nn, rfl⟩ := Int.eq_ofNat_of_zero_le hf.1
            have hnn : nn < 4294967296 := by omega
            have q1 : ((0 : Int) ≤ (nn : Int)) = True := by simp
            have q2 : ((nn : Int) < 4294967296) = True := by simp; omega
            have q2' : (nn < 4294967296) = True := by simp; omega
            clear hf
            go_wp2_with fail
            refine (bye_ok HD15.out rfl nn hnn (show 3 ≤ 2147483647 by decide) (by have := HOut.out; omega)).mono ?_
            intro e w16 hp
            obtain rfl := hp.ret
            obtain ⟨ow16, L16, _, hc16, hf16⟩ := hp
            have HD16 := Lib.hid hc16
            have HF16 := Lib.hid (HF15.out.trans hf16)
            clear hc16 hf16 HD15 HF15 HG15 g2
            have HG16 := Lib.hid (HG2.out.fr HEw2.out HF16.out)
            have g2 := HG16.out.num
            unfold NumAt at g2
            go_wp2_with fail
            clear g2
            refine (post_any w16).mono ?_
            rintro e w17 ⟨rfl, _, hb17⟩
            have HD17 := Lib.hid (HD16.out.below hb17)
            have HF17 := Lib.hid (HF16.out.trans (Fr.below hb17 ow16))
            have HG17 := Lib.hid (HG2.out.fr HEw2.out HF17.out)
            clear hb17 HD16 HF16 HG16
            go_wp2_with fail
            refine (open_gone HD17.out rfl rfl (.inr ⟨rfl, rfl⟩) HG17.out.gone _ _).mono ?_
            rintro e w18 ⟨rfl, m18, hw18⟩
            have HD18 := Lib.hid (show CN w18 ow16 b _ L16 from hw18 ▸ HD17.out.drewN m18)
            have HF18 := Lib.hid (show Fr w2 ow2 w18 ow16 from hw18 ▸ (HF17.out.trans (Fr.drewN w17 ow16 m18)))
            have HG18 := Lib.hid (HG2.out.fr HEw2.out HF18.out)
            clear hw18 HD17 HF17 HG17
            have g2 := HG18.out.num
            have g3 := HG18.out.gone
            unfold NumAt at g2
            unfold GoneAt at g3
            have HAt := Lib.hid (fun k => ate_bad (HD18.out.drewN k) rfl (tS lb) 1 rfl 1 (.inr (show (0 : Int) < 1 by decide)) (show NumAt (w18.drewN k) a2 from HG18.out.num) wf1')
            go_wp2_with fail
            go_quiet ((go_at_call 19; exact Calls.quiet_of (HAt.out _)))
            go_wp2
            go_ret
            exact ⟨rfl, below_drewN (HF18.out.toBelow HB2.out HO2.out) _⟩
          · have hfc : ((0 : Int) ≤ n) = False ∨ (((0 : Int) ≤ n) = True ∧ (n < 4294967296) = False) := by
              simp only [eq_iff_iff, iff_true, iff_false]
              omega
            go_wp2_with fail
            refine (bye_bad HD15.out rfl HG15.out.num n hf).mono ?_
            rintro e w16 ⟨rfl, m16, hw16⟩
            have HD16 := Lib.hid (show CN w16 ow14 b (t3M op lb) L14 from hw16 ▸ HD15.out.drewN m16)
            have HF16 := Lib.hid (show Fr w2 ow2 w16 ow14 from hw16 ▸ (HF15.out.trans (Fr.drewN w15 ow14 m16)))
            have HG16 := Lib.hid (HG2.out.fr HEw2.out HF16.out)
            clear hw16 HD15 HF15 HG15 g2 hf
            have g2 := HG16.out.num
            unfold NumAt at g2
            have hne2 := neq_same a2
            rcases hfc with q1 | ⟨q1, q2⟩
            all_goals
              go_wp2_with fail
              clear g2
              refine (post_any w16).mono ?_
              rintro e w17 ⟨rfl, hr17, hb17⟩
              have HD17 := Lib.hid (HD16.out.below hb17)
              have HF17 := Lib.hid (HF16.out.trans (Fr.below hb17 ow14))
              have HR17 := Lib.hid hr17
              have HN17 := Lib.hid (HD16.out.new w16.heap.size (Nat.le_refl _))
              clear hr17 hb17 HD16 HF16 HG16
              go_wp2_with fail
              refine (copen_any w17 ow14 b (t3M op lb) L14 (some ⟨w16.heap.size, 0, none⟩) 3 hs3 ix3n false (HEw2.out.fr HF17.out) HD17.out rfl rfl rfl rfl (show (2 : Int) < 2147483647 by decide) (show 5 ≤ 2147483647 by decide) (fun s hs => by rw [t3_strs] at hs; rcases List.mem_cons.1 hs with rfl | hs; exact (show (1 : Nat) ≠ 5 by decide); rcases List.mem_singleton.1 hs with rfl; exact (show (3 : Nat) ≠ 5 by decide)) (show ([1, 3] : List Nat).Nodup by decide) (show (0 : Int) ≤ 65535 ∧ (65535 : Int) ≤ 2147483647 by decide) (show (0 : Int) ≤ 65535 ∧ (65535 : Int) ≤ 2147483647 by decide) (show 2 ≤ 100000 by decide) (by have := HOut.out; omega) HR17.out (fun ad e => by injection e with e; rw [← e]; exact HN17.out) ix83 hs3_nv (by decide) (by decide) hs3_sz hs3_hsz szs3 opn3).mono ?_
              intro e w18 hp
              obtain rfl := hp.ret
              obtain ⟨ow18, L18, _, hc18, hf18⟩ := hp
              have HD18 := Lib.hid hc18
              have HF18 := Lib.hid (HF17.out.trans hf18)
              clear hc18 hf18 HD17 HF17 HR17 HN17
              have HG18 := Lib.hid (HG2.out.fr HEw2.out HF18.out)
              have g2 := HG18.out.num
              have g3 := HG18.out.gone
              unfold NumAt at g2
              unfold GoneAt at g3
              have hen := eql_nil3 a3
              have HAt := Lib.hid (fun k => ate_bad (HD18.out.drewN k) rfl (tS lb) 1 rfl 1 (.inr (show (0 : Int) < 1 by decide)) (show NumAt (w18.drewN k) a2 from HG18.out.num) wf1')
              go_wp2_with fail
              go_quiet ((go_at_call 19; exact Calls.quiet_of (HAt.out _)))
              go_wp2
              go_ret
              exact ⟨rfl, below_drewN (HF18.out.toBelow HB2.out HO2.out) _⟩

/-- The walk of ConnTells. -/
theorem connTells_any (w : World) (a1 a2 a3 a4 : Addr) (hE : EnvT w a1 a2 a3 a4) (n id : Int) (hwi : (Lit.int .i64 id).wf = true) (Ab Al : Option Addr) (nb cb nl cl : Nat) (l : List HdrV) (lb : List UInt8) (hl : H6.Hr w Al nl l) (hb : Rd w w.heap.size Ab nb lb) :
    Calls Tryz.prog 9 #[.int .i64 n, .int .i64 id, .slice Al nl cl, .slice Ab nb cb] w fun e w' => e = .returned (.bool true) ∧ Below w.heap.size w w' := by
  by_cases h : 20 < nl ∨ 3000 < nb
  · exact tells_much w hE.wd n id Ab Al nb cb nl cl h
  · exact tells_few w a1 a2 a3 a4 hE n id hwi Ab Al nb cb nl cl l lb hl hb (by omega) (by omega)
end Go.Proofs.YtdkfbkjmhgbppaaGreatDoor
