/-
  Contract: chain.Apply: rules that may be, whose pattern is empty.
-/
import Derived.Test.YthokfopeddaiiaaGreatDoorApl
namespace Go.Proofs.YthokfopeddaiiaaGreatDoor
open Go.RowKit Go.Own Go.Own.Fn Go.Shelf
attribute [local go_sem] Oper.semAt_some
variable {σ : Type}
theorem field_sort (W : World) (a b : Value) : (Instr.field 70 (.agg #[a, b]) 1).run Tryz.prog W = .ok b W := by
  obtain ⟨i0, hi, hz0, hz1, hz2⟩ := info_parts (show (Tryz.prog.info? 68).map (fun i => (i.zero, i.size, i.bytes)) = some (some .nilFunc, 1, 8) by kernel_rfl)
  simp [Instr.field, run_underlying Tryz.underlying70, asAgg, part, go_sem, sizeOf, typeInfo, hi, hz1, isAgg, run_underlying Tryz.underlying68]
/-- The answer lies in block g. -/
def FinA (S : Stt σ) (k0 : Nat) (w wx : World) (g : Nat) (a b c d : Value) (y : AnsV × σ) : Prop :=
  w.heap.size + 1 < g ∧ Blk wx g 39 #[a, b, c, d] ∧ RYk k0 wx (.agg #[a, b, c, d]) y.1 ∧ S.St y.2 wx ∧ w.grownBy wx S.row ∧ Blk wx (w.heap.size + 1) 39 #[.int .i64 0, .string ⟨#[]⟩, .slice none 0 0, .slice none 0 0]
theorem fin_new {S : Stt σ} (hS : KeepsSt S) {k0 : Nat} {w w10 : World} {a b c d : Value} {y : AnsV × σ} (h1 : RYk k0 w10 (.agg #[a, b, c, d]) y.1) (h2 : S.St y.2 w10) (h3 : w.grownBy w10 S.row) (hY : Blk w10 (w.heap.size + 1) 39 #[.int .i64 0, .string ⟨#[]⟩, .slice none 0 0, .slice none 0 0]) :
    FinA S k0 w (w10.alloc (.cells #[a, b, c, d] 39)) w10.heap.size a b c d y := by
  have hb : Below w10.heap.size w10 (w10.alloc (.cells #[a, b, c, d] 39)) := (Below.refl _ _).alloc (Nat.le_refl _) _
  exact ⟨hY.lt, Blk.new _ _ _, h1.below hb, steady_of_keeps hS _ _ _ hb h2, grown_trans h3 (grown_of_below hb _), hY.alloc _⟩
theorem fin_put {S : Stt σ} (hS : KeepsSt S) {k0 g : Nat} {w w10 : World} {a b c d : Value} {y : AnsV × σ} (hg : w.heap.size + 1 < g) (h1 : RYk k0 w10 (.agg #[a, b, c, d]) y.1) (h2 : S.St y.2 w10) (h3 : w.grownBy w10 S.row) (hY : Blk w10 (w.heap.size + 1) 39 #[.int .i64 0, .string ⟨#[]⟩, .slice none 0 0, .slice none 0 0]) (hB : Blk w10 g 39 #[.int .i64 0, .string ⟨#[]⟩, .slice none 0 0, .slice none 0 0]) :
    FinA S k0 w (put4 w10 g a b c d) g a b c d y := by
  have hk := put4_kt (a := a) (b := b) (c := c) (d := d) hB
  refine ⟨hg, put4_blk hB, (keepers_call hS k0).ry hk h1, hS _ _ _ hk h2, put4_grown h3 (by omega), ?_⟩
  unfold put4
  exact (((hY.far (by simp; omega) _).far (by simp; omega) _).far (by simp; omega) _).far (by simp; omega) _
theorem fin_end {S : Stt σ} (hS : KeepsSt S) {k0 g n6 c6 n8 c8 c9 c10 base : Nat} {q : Int} {t : ByteArray} {A6 A8 A9 A10 : Option Addr} {w wc w11 w12 : World} {y : AnsV × σ} (hF : FinA S k0 w wc g (.int .i64 q) (.string t) (.slice A6 n6 c6) (.slice A8 n8 c8) y)
    (h11 : Hw w11 wc.heap.size (.slice A9 n6 c9) y.1.hs) (b11 : Below wc.heap.size wc w11) (h12 : Ow w12 base 5 (.slice A10 n8 c10) n8 y.1.body) (b12 : Below (w11.setCell ⟨g, 2, none⟩ (.slice A9 n6 c9)).heap.size (w11.setCell ⟨g, 2, none⟩ (.slice A9 n6 c9)) w12) :
    Blk (put4 (w12.setCell ⟨g, 3, none⟩ (.slice A10 n8 c10)) (w.heap.size + 1) (.int .i64 q) (.string t) (.slice A9 n6 c9) (.slice A10 n8 c10)) (w.heap.size + 1) 39 #[.int .i64 q, .string t, .slice A9 n6 c9, .slice A10 n8 c10] ∧
    RYk k0 (put4 (w12.setCell ⟨g, 3, none⟩ (.slice A10 n8 c10)) (w.heap.size + 1) (.int .i64 q) (.string t) (.slice A9 n6 c9) (.slice A10 n8 c10)) (.agg #[.int .i64 q, .string t, .slice A9 n6 c9, .slice A10 n8 c10]) y.1 ∧
    S.St y.2 (put4 (w12.setCell ⟨g, 3, none⟩ (.slice A10 n8 c10)) (w.heap.size + 1) (.int .i64 q) (.string t) (.slice A9 n6 c9) (.slice A10 n8 c10)) ∧ w.grownBy (put4 (w12.setCell ⟨g, 3, none⟩ (.slice A10 n8 c10)) (w.heap.size + 1) (.int .i64 q) (.string t) (.slice A9 n6 c9) (.slice A10 n8 c10)) S.row := by
  obtain ⟨f1, f2, f3, f4, f5, f6⟩ := hF
  obtain ⟨hv, bv, e, g1, g2, g3, g4⟩ := f3
  simp at e
  obtain ⟨e1, e2, rfl, rfl⟩ := e
  have hn8 : y.1.body.length = n8 := by
    obtain ⟨A, c, e, _⟩ := g2.form
    injection e with _ e _
    exact e.symm
  have ht : ¬ notAns 39 := fun h => h rfl
  have B11 := f2.below b11 f2.lt
  have B11' := B11.put 2 (.slice A9 n6 c9)
  have B12 := B11'.below b12 B11'.lt
  have Y11 := f6.below b11 f6.lt
  have Y11' := Y11.far (p := ⟨g, 2, none⟩) (by simp; omega) (.slice A9 n6 c9)
  have Y12 := Y11'.below b12 Y11'.lt
  have Y12' := Y12.far (p := ⟨g, 3, none⟩) (by simp; omega) (.slice A10 n8 c10)
  have k1 : Kt notAns wc w11 := Kt.below b11
  have k2 : Kt notAns w11 (w11.setCell ⟨g, 2, none⟩ (.slice A9 n6 c9)) := Kt.put B11 ht 2 _
  have k3 : Kt notAns (w11.setCell ⟨g, 2, none⟩ (.slice A9 n6 c9)) w12 := Kt.below b12
  have k4 : Kt notAns w12 (w12.setCell ⟨g, 3, none⟩ (.slice A10 n8 c10)) := Kt.put B12 ht 3 _
  have k5 := put4_kt (a := .int .i64 q) (b := .string t) (c := .slice A9 n6 c9) (d := .slice A10 n8 c10) Y12'
  refine ⟨put4_blk Y12', ⟨_, _, by rw [← e1, ← e2], ((h11.base (Nat.zero_le _)).kt (by unfold notAns; decide) (((k2.trans k3).trans k4).trans k5)), ?_, g3, g4⟩, hS _ _ _ ((((k1.trans k2).trans k3).trans k4).trans k5) f4, ?_⟩
  · rw [hn8]
    exact owKt (h12.base (Nat.zero_le _)) (by unfold notAns; decide) (k4.trans k5)
  · exact put4_grown (grown_new (grown_trans (grown_new (grown_trans f5 (grown_of_below b11 _)) (by omega) _ _) (grown_of_below b12 _)) (by omega) _ _) (by omega)
theorem res15 (tmps : Array Value) (w : World) (g : Nat) (a b c d : Value) (ht : tmps[6]? = some (.pointer (some ⟨g, 0, none⟩))) (h7 : tmps[7]? = some .nilIface) (hb : Blk w g 39 #[a, b, c, d]) :
    (results Tryz.f15 tmps).run Tryz.prog w = .ok (.tuple #[.agg #[a, b, c, d], .nilIface]) w := by
  have c0 : w.cell? ⟨g, 0, none⟩ = some a := hb.cell 0
  have c1 : w.cell? ⟨g, 1, none⟩ = some b := hb.cell 1
  have c2 : w.cell? ⟨g, 2, none⟩ = some c := hb.cell 2
  have c3 : w.cell? ⟨g, 3, none⟩ = some d := hb.cell 3
  simp [results, Tryz.results15, go_sem, ht, h7, c0, c1, c2, c3]
theorem byte_notAns : notAns 5 := by unfold notAns; decide
theorem ans_not : ¬ notAns 39 := fun h => h rfl
theorem useTok {p q : Prop} (_ : Hid p) (h : Hid q) : q := h.out
theorem one_func {K : Nat} {f c : Array Value} : ∀ u ∈ ([.func (.func K) f c] : List Value), u.oneCell' = true := by
  intro u hu
  rcases List.mem_singleton.1 hu with rfl
  rfl
set_option maxHeartbeats 4000000 in
set_option maxRecDepth 100000 in
theorem apply_fit (S : Stt σ) (hS : KeepsSt S) (k0 : Nat) (ex : Nat → Prop) (A A1 A2 : Option Addr) (n c n1 c1 n2 c2 : Nat) (l : List RuleV) (x : CallV) (fv : Value) (F : CallV → σ → AnsV × σ) (s : σ) (w : World)
    (hn : n ≤ 80) (hk0 : k0 ≤ 500) (hex : ∀ g, ex g → g < w.heap.size) (hrow : ∀ g, S.row = some g → ex g) (he : EnvC w) (hl : Rs w A n l) (hfit : ∀ r ∈ l, RuleFit r ∧ r.path = ⟨#[]⟩)
    (hh : Hr w A1 n1 x.hs) (hb : Rd w w.heap.size A2 n2 x.body) (hm1 : x.hs.length ≤ 100 + k0) (hm2 : x.body.length ≤ 1000000000) (hv : Fnc Tryz.prog S (callL (k0 + n)) ex fv F w) (hs0 : S.St s w) :
    Calls Tryz.prog 15 #[.slice A n c, .agg #[.string x.path, .slice A1 n1 c1, .slice A2 n2 c2], fv] w fun e w' =>
      ∃ yv, e = .returned (.tuple #[yv, .nilIface]) ∧ RYk k0 w' yv (wrapS (ruleAs 0 l) F x s).1 ∧ S.St (wrapS (ruleAs 0 l) F x s).2 w' ∧ w.grownBy w' S.row := by
  obtain ⟨Yv, hYv⟩ : ∃ y, wrapS (ruleAs 0 l) F x s = y := ⟨_, rfl⟩
  rw [hYv]
  have HYv := Lib.hid hYv
  clear hYv
  obtain ⟨xp, hxp⟩ : ∃ p, x.path = p := ⟨_, rfl⟩
  rw [hxp]
  obtain ⟨r1, r2, r3⟩ := (⟨((Below.refl w.heap.size w).alloc (Nat.le_refl _) (.cells #[.string xp, .slice A1 n1 c1, .slice A2 n2 c2] 26)).alloc (by simp) (.cells #[.int .i64 0, .string ⟨#[]⟩, .slice none 0 0, .slice none 0 0] 39), (Blk.new _ _ _).alloc _, by
    have := Blk.new (w.alloc (.cells #[.string xp, .slice A1 n1 c1, .slice A2 n2 c2] 26)) 39 #[.int .i64 0, .string ⟨#[]⟩, .slice none 0 0, .slice none 0 0]
    simpa using this⟩ : Below w.heap.size w ((w.alloc (.cells #[.string xp, .slice A1 n1 c1, .slice A2 n2 c2] 26)).alloc (.cells #[.int .i64 0, .string ⟨#[]⟩, .slice none 0 0, .slice none 0 0] 39)) ∧ Blk ((w.alloc (.cells #[.string xp, .slice A1 n1 c1, .slice A2 n2 c2] 26)).alloc (.cells #[.int .i64 0, .string ⟨#[]⟩, .slice none 0 0, .slice none 0 0] 39)) w.heap.size 26 #[.string xp, .slice A1 n1 c1, .slice A2 n2 c2] ∧
      Blk ((w.alloc (.cells #[.string xp, .slice A1 n1 c1, .slice A2 n2 c2] 26)).alloc (.cells #[.int .i64 0, .string ⟨#[]⟩, .slice none 0 0, .slice none 0 0] 39)) (w.heap.size + 1) 39 #[.int .i64 0, .string ⟨#[]⟩, .slice none 0 0, .slice none 0 0])
  have HV := Lib.hid hv
  have HSS := Lib.hid (steady_of_keeps hS)
  have HC := Lib.hid (And.intro hex (And.intro hrow (And.intro hm1 (And.intro hm2 hs0))))
  have HVal := Lib.hid (valid_fit A n c l _ (by omega) (he.below r1) (hl.below r1) (fun r hr => (hfit r hr).1))
  have HB0 := Lib.hid r1
  have HX0 := Lib.hid r2
  have HY0 := Lib.hid r3
  have HL := Lib.hid hl
  have HFit := Lib.hid hfit
  have HE := Lib.hid he
  have HIn := Lib.hid (And.intro hh hb)
  have HXp := Lib.hid hxp
  have HN := Lib.hid (And.intro hn hk0)
  obtain ⟨K, first, cap, rfl, hE, hc⟩ := hv
  clear r1 r2 r3 hex hrow hm1 hm2 hs0 hl hfit he hh hb hc hE hxp hk0
  go_enter Tryz.func15, Tryz.ntmps15
  go_wp2_with fail
  refine HVal.out.mono ?_
  rintro e w1 ⟨rfl, g1⟩
  have HB1 := Lib.hid (HB0.out.trans (g1.mono HB0.out.size))
  have HX1 := Lib.hid (HX0.out.below g1 HX0.out.lt)
  have HY1 := Lib.hid (HY0.out.below g1 HY0.out.lt)
  clear g1 HVal HB0 HX0 HY0
  go_wp2_with fail
  go_loopw [9, 21] (fun v i wr => ∃ k : Nat, k ≤ n ∧ i = .int .i64 (k : Int) ∧ Hid (∃ avs R, ApJ S k0 (fun i => ex i ∨ i = w.heap.size) R w1 l k v avs wr)) (fun _ i _ => n - (intOf i).toNat)
  case atStart => exact ⟨0, Nat.zero_le _, rfl, Lib.hid ⟨[], fun _ => False, rfl, ⟨rfl, .inl ⟨rfl, rfl⟩⟩, Below.refl _ _, fun i h => h.elim, fun g hg => by simp [Value.ownBlock] at hg, fun j r hj _ => by omega⟩⟩
  case round =>
    obtain ⟨k, hk, rfl, hh⟩ := hrel
    obtain ⟨avs, R, hj⟩ := hh.out
    have HJ := Lib.hid hj
    clear hh
    by_cases hlt : k < n
    · have hlen := HL.out.1
      obtain ⟨r, hr⟩ : ∃ r, l[k]? = some r := ⟨_, List.getElem?_eq_getElem (by omega)⟩
      obtain ⟨ad, rfl, h1, h2, h4, h5, h6, h7, h8⟩ := ((HL.out.below HB1.out).below hj.bel).at_ hr
      have HF := Lib.hid (HFit.out r (List.mem_of_getElem? hr))
      have HRr := Lib.hid hr
      obtain ⟨g1, g2⟩ := rule_room wr r
      have HG1 := Lib.hid g1
      have HS : Hid (∀ W, Below (wr.alloc (ruleB r)).heap.size (wr.alloc (ruleB r)) W → _) := Lib.hid fun W hW => sorts_for σ (wr.alloc (ruleB r)) W wr.heap.size r HF.out.1 g2 hW
      have HG2 := Lib.hid g2
      obtain ⟨rp, rn, rv, rk, rc, ri⟩ := r
      simp only at h2 h4 h5 h6 h7 h8
      obtain rfl : rp = ⟨#[]⟩ := HF.out.2
      have x0 : wr.cell? ⟨w.heap.size, 0, none⟩ = some (.string xp) := (HX1.out.below hj.bel HX1.out.lt).cell 0
      have hwl : w.heap.size < wr.heap.size := Nat.lt_of_lt_of_le HX1.out.lt hj.bel.size
      clear hlen hr h1 g1 g2 hj
      go_wp2_with fail
      refine (matches_all xp _).mono ?_
      rintro e wm ⟨rfl, rfl⟩
      go_wp2_with fail
      obtain ⟨q0, q1, q2, q3, q4, q5⟩ := rule_cells HG2.out
      have hsz : wr.heap.size < (wr.alloc (ruleB ⟨⟨#[]⟩, rn, rv, rk, rc, ri⟩)).heap.size := by simp
      clear h2 h4 h5 h6 h7 h8 x0
      generalize wr.alloc _ = W1 at HS HG1 HG2 q0 q1 q2 q3 q4 q5 hsz ⊢
      have HD : Hid (Below W1.heap.size W1 W1.drew) := Lib.hid (Below.refl _ _).drew
      have S1 := Lib.hid (HS.out W1.drew HD.out)
      have HR : Hid (∀ m mK aK mC aC w2, Hid (KindFit σ m w2 W1.drew.heap.size ⟨⟨#[]⟩, rn, rv, rk, rc, ri⟩ mK aK mC aC ∧ Below W1.heap.size W1 w2 ∧ Below W1.drew.heap.size W1.drew w2 ∧ (∀ i, aC = #[.pointer (some ⟨i, 0, none⟩)] → W1.drew.heap.size ≤ i)) →
          Calls Tryz.prog aK (#[.agg #[.string ⟨#[]⟩, .string rn, .string rv, .int .i64 rk, .int .i64 rc, .int .i64 ri], .int .i64 (k : Int)] ++ aC) w2 fun e w3 => ∃ K f cap, e = .returned (.func (.func K) f cap) ∧ Hid (Arnd Tryz.prog S (callL (k0 + k)) (callL (k0 + k + 1)) (fun i => (ex i ∨ i = w.heap.size) ∨ R i) (.func (.func K) f cap) (ruleA ⟨⟨#[]⟩, rn, rv, rk, rc, ri⟩ k) w3 ∧ ApJ S k0 (fun i => ex i ∨ i = w.heap.size) R w1 l k u9 avs w3)) := Lib.hid (fun m mK aK mC aC w2 h => by
        have hw2 : wr.heap.size ≤ W1.heap.size := Nat.le_of_lt hsz
        refine (arnd_for (W := W1.drew) hS HJ.out hw2 (by have := HN.out.1; omega) (by have := HN.out.2; omega) (fun g hg => hg.elim (fun h => Nat.lt_of_lt_of_le (HC.out.1 g h) HB1.out.size) (fun h => h ▸ HX1.out.lt)) (fun g hg => .inl (HC.out.2.1 g hg)) h.out.1 h.out.2.1.size h.out.2.2.2).mono ?_
        rintro e w3 ⟨K, f, cap, rfl, hh⟩
        exact ⟨K, f, cap, rfl, Lib.hid ⟨hh.out.1, HJ.out.move (HG1.out.trans ((h.out.2.1.trans (hh.out.2.mono h.out.2.1.size)).mono hw2))⟩⟩)
      obtain ⟨i0, hi, hz0, hz1, hz2⟩ := info_parts (show (Tryz.prog.info? 79).map (fun i => (i.zero, i.size, i.bytes)) = some (some .nilFunc, 1, 8) by kernel_rfl)
      have HI := Lib.hid (And.intro hi (And.intro hz0 (And.intro hz1 hz2)))
      have h63 : Hid (k + 1 ≤ maxLen ∧ (k + 1) * 8 ≤ 140737488355328) := Lib.hid (by simp only [maxLen]; omega)
      have hfd : ∀ W a b, (Instr.field 70 (.agg #[a, b]) 1).run Tryz.prog W = .ok b W := field_sort
      clear HS hi hz0 hz1 hz2
      go_region_law (first
          | (go_simp; go_at_call 34; (with_reducible refine S1.out.mono ?_); rintro e w2 ⟨m, mK, aK, mC, aC, rfl, ⟨d0, d1, d2, d3, d4, d5⟩, d6, lk1, lk2, lk3, HBB, HK⟩; have ea : ∀ args w, (callFunc aK args).run Tryz.prog w = .ok (.enter aK args) w := HK.out.1.ea)
          | (go_simp; (with_reducible refine (HR.out _ _ _ _ _ _ HK).mono ?_); rintro e w3 ⟨Kf, ff, cf, rfl, HA3⟩)
          | (refine step_append_lies _ (by rfl) (.tmp 31) (.tmp 40) 77 (by rfl) w1.heap.size 79 i0 .nilFunc 1 8 Tryz.underlying77 HI.out.1 HI.out.2.1 HI.out.2.2.1 HI.out.2.2.2 rfl (by decide) u9 k avs (by rfl) (by exact HA3.out.2.own.alloc _) ⟨w3.heap.size, 0, none⟩ 1 1 [.func (.func Kf) ff cf] (by rfl) (by rfl) (by exact World.news_of_block (heap_alloc_new w3 _)) (by exact one_func) (by decide) (by exact h63.out.1) (by exact h63.out.2) (by exact Nat.le_trans HA3.out.2.bel.size (by simp)) (w3.heap.size + 1) (by simp) ?_; intro g cp w4 hown hgr hat hlt4; have H4 := Lib.hid (HA3.out.2.step HRr.out HA3.out.1 _ hown hgr (by simpa [Value.ownBlock, eq_comm] using hat)); clear hown hgr hat hlt4))
      all_goals
        go_wp2_with fail
        go_roundw
        case rel => exact ⟨k + 1, hlt, by go_num, Lib.hid ⟨_, H4.out⟩⟩
        case measure => simp [intOf]; omega
    · obtain rfl : k = n := by omega
      obtain ⟨A3, c3, rfl, hc3, har, hbel, hA3⟩ := ApJ.done HL.out.1 HJ.out
      have HAr := Lib.hid (And.intro har (And.intro hbel hA3))
      have hX := HX1.out.below hbel HX1.out.lt
      have hY := HY1.out.below hbel HY1.out.lt
      have HB2 := Lib.hid (HB1.out.trans (hbel.mono HB1.out.size))
      obtain ⟨x0, x1, x2, x3, x4, x5⟩ := call_cells hX
      have hwl : w.heap.size < wr.heap.size := hX.lt
      have HX2 := Lib.hid (And.intro hX hY)
      clear hk hlt har hbel hA3 hX hY HJ
      go_wp2_with (first
        | (at_builtin
           refine wpList_app_h _ rfl (.tmp 44) rfl A1 n1 c1 x.hs rfl (HIn.out.1.below HB2.out) ?_ ?_
           · have := HC.out.2.2.1; have := HN.out.2; have := HIn.out.1.1; omega
           intro A4 c4 w5 hown hb5
           have H5 := Lib.hid (And.intro hown (HB2.out.trans (hb5.mono HB2.out.size)))
           have hX5 := HX2.out.1.below hb5 HX2.out.1.lt
           have hY5 := HX2.out.2.below hb5 HX2.out.2.lt
           have HX5 := Lib.hid (And.intro hX5 (And.intro hY5 hb5))
           have hw5 : w.heap.size < w5.heap.size := hX5.lt
           clear x0 x1 x2 x3 x4 x5
           obtain ⟨x0, x1, x2, x3, x4, x5⟩ := call_cells hX5
           clear hown hb5 hX5 hY5)
        | (at_builtin
           refine wpList_app_b _ rfl (.tmp 48) rfl w.heap.size A2 n2 c2 x.body rfl ((HIn.out.2.below H5.out.2).setCell (Nat.le_refl _) _) ?_ ?_
           · have := HC.out.2.2.2.1; have := HIn.out.2.1; omega
           intro A5 c5 w6 hown hb6
           have hX6 := (HX5.out.1.put 1 (.slice A4 n1 c4)).below hb6 (by simpa using hw5)
           have hY6 := (HX5.out.2.1.far (p := ⟨w.heap.size, 1, none⟩) (by simp) (.slice A4 n1 c4)).below hb6 (by simpa using HX5.out.2.1.lt)
           have hB6 : Below w.heap.size w w6 := ((H5.out.2.setCell (p := ⟨w.heap.size, 1, none⟩) (Nat.le_refl _) (.slice A4 n1 c4)).trans (hb6.mono (by simpa using H5.out.2.size)))
           have H6 := Lib.hid (And.intro hown (And.intro hb6 hB6))
           have HX6 := Lib.hid (And.intro hX6 hY6)
           have hw6 : w.heap.size < w6.heap.size := hX6.lt
           clear x0 x1 x2 x3 x4 x5
           obtain ⟨x0, x1, x2, x3, x4, x5⟩ := call_cells hX6
           clear hown hb6 hX6 hY6 hB6))
      have HX7 : Hid (Blk (w6.setCell ⟨w.heap.size, 2, none⟩ (.slice A5 n2 c5)) w.heap.size 26 #[.string xp, .slice A4 n1 c4, .slice A5 n2 c5]) := Lib.hid (HX6.out.1.put 2 (.slice A5 n2 c5))
      have HY7 := Lib.hid (HX6.out.2.far (p := ⟨w.heap.size, 2, none⟩) (by simp) (.slice A5 n2 c5))
      have HB7 : Hid (Below w.heap.size w (w6.setCell ⟨w.heap.size, 2, none⟩ (.slice A5 n2 c5))) := Lib.hid (H6.out.2.2.setCell (Nat.le_refl _) _)
      have k7 : Kx (fun i => ex i ∨ i = w.heap.size) wr (w6.setCell ⟨w.heap.size, 2, none⟩ (.slice A5 n2 c5)) :=
        (((Kx.below HX5.out.2.2).trans (Kx.grown (grown_setCell (World.grownBy.refl w5 (some w.heap.size)) 1 (.slice A4 n1 c4)) (fun g e => .inr (by injection e with e; exact e.symm)))).trans (Kx.below H6.out.2.1)).trans (Kx.grown (grown_setCell (World.grownBy.refl w6 (some w.heap.size)) 2 (.slice A5 n2 c5)) (fun g e => .inr (by injection e with e; exact e.symm)))
      have HA7 : Hid (IsArs Tryz.prog S callL k0 ex (w6.setCell ⟨w.heap.size, 2, none⟩ (.slice A5 n2 c5)) A3 k (ruleAs 0 l)) := Lib.hid (IsArs.move HAr.out.1 k7 (fun ad e => by
        have := HAr.out.2.2 ad e
        have := HX1.out.lt
        rintro (h | h)
        · have := HC.out.1 _ h; omega
        · omega) fun i h => .inl h)
      have HNe : Hid (∀ ad, A3 = some ad → ¬ ex ad.block) := Lib.hid (fun ad e h => by have := HAr.out.2.2 ad e; have := HX1.out.lt; have := HC.out.1 _ h; omega)
      have w5l := H5.out.1.lt
      have HR7 : Hid (RXk k0 (w6.setCell ⟨w.heap.size, 2, none⟩ (.slice A5 n2 c5)) (.agg #[.string xp, .slice A4 n1 c4, .slice A5 n2 c5]) x) := Lib.hid (by
        refine ⟨.slice A4 n1 c4, .slice A5 n2 c5, by rw [HXp.out], ?_, ?_, HC.out.2.2.1, HC.out.2.2.2.1⟩
        · refine Hw.base ((((H5.out.1.grown (grown_setCell (World.grownBy.refl w5 (some w.heap.size)) 1 (.slice A4 n1 c4)) (.inr fun e => ?_)).below H6.out.2.1).grown (grown_setCell (World.grownBy.refl w6 (some w.heap.size)) 2 (.slice A5 n2 c5)) (.inr fun e => ?_))) (Nat.zero_le _)
          · have := (w5l _ e).1; omega
          · have := (w5l _ e).1; omega
        · rw [HIn.out.2.1]
          refine Ow.base (H6.out.1.grown (grown_setCell (World.grownBy.refl w6 (some w.heap.size)) 2 (.slice A5 n2 c5)) (.inr fun e => ?_)) (Nat.zero_le _)
          have := (H6.out.1.lt e).2
          simp at this
          omega)
      clear w5l k7 x0 x1 x2 x3 x4 x5 H5 H6 HX5 HX6 HAr HX2 HB2 hw5 hw6 hwl
      generalize w6.setCell ⟨w.heap.size, 2, none⟩ (.slice A5 n2 c5) = W7 at HX7 HY7 HB7 HA7 HR7 ⊢
      have CW : Hid (∀ W, Below W7.heap.size W7 W → Calls Tryz.prog 40 #[.func (.func K) first cap, .slice A3 k c3] W fun e w8 => ∃ K2 f2 cap2, e = .returned (.func (.func K2) f2 cap2) ∧ Enters Tryz.prog K2 ∧
          (w8.cell? ⟨w.heap.size, 0, none⟩ = some (.string xp) ∧ w8.cell? ⟨w.heap.size, 1, none⟩ = some (.slice A4 n1 c4) ∧ w8.cell? ⟨w.heap.size, 2, none⟩ = some (.slice A5 n2 c5)) ∧
          Hid (Below W7.heap.size W7 w8 ∧ (∀ g t cs, Blk W g t cs → Blk w8 g t cs) ∧
            ∀ w9, Below w8.heap.size w8 w9 → Calls Tryz.prog K2 (f2.push (.agg #[.string xp, .slice A4 n1 c4, .slice A5 n2 c5]) ++ cap2) w9 fun e w10 => ∃ q t A6 n6 c6 A8 n8 c8, e = .returned (.agg #[.int .i64 q, .string t, .slice A6 n6 c6, .slice A8 n8 c8]) ∧
              Hid (RYk k0 w10 (.agg #[.int .i64 q, .string t, .slice A6 n6 c6, .slice A8 n8 c8]) Yv.1 ∧ S.St Yv.2 w10 ∧ w.grownBy w10 S.row ∧ (∀ g t cs, w.heap.size ≤ g → Blk w9 g t cs → Blk w10 g t cs)))) := Lib.hid (fun W hW => by
        have hB := HB7.out.trans (hW.mono HB7.out.size)
        refine (wrap_c S callL k0 notAns (fun h => h rfl) (fun j => keepers_call hS j) shaped_call ex _ F A3 k c3 (ruleAs 0 l) W HC.out.2.1 (fun g hg => Nat.lt_of_lt_of_le (HC.out.1 g hg) hB.size) (by have := HN.out.1; omega) (HV.out.kx (Kx.below hB)) (IsArs.move HA7.out (Kx.below hW) (HNe.out) fun i h => h)).mono ?_
        · rintro e w8 ⟨r, rfl, hr, h8⟩
          obtain ⟨K2, f2, cap2, rfl, hE2, hc2⟩ := hr
          have hW8 := hW.trans (h8.mono hW.size)
          have hb8 := hB.trans (h8.mono hB.size)
          obtain ⟨y0, y1, y2, _⟩ := call_cells (HX7.out.below hW8 HX7.out.lt)
          refine ⟨K2, f2, cap2, rfl, hE2, ⟨y0, y1, y2⟩, Lib.hid ⟨hW8, fun g t cs hg => hg.below h8 hg.lt, fun w9 h9 => ?_⟩⟩
          have hb9 := hb8.trans (h9.mono hb8.size)
          refine (hc2 w9 s _ x (Kx.below h9) (HSS.out _ _ _ hb9 HC.out.2.2.2.2) ((HR7.out.below hW8).below h9)).mono ?_
          rintro e w10 ⟨yv, rfl, j1, j2, j3⟩
          rw [HYv.out] at j1 j2
          obtain ⟨q, t, A6, n6, c6, A8, n8, c8, rfl⟩ := (shaped_call k0).y j1
          exact ⟨q, t, A6, n6, c6, A8, n8, c8, rfl, Lib.hid ⟨j1, j2, grown_trans (grown_of_below hb9 _) j3, fun g t cs hg hbg => hbg.grown j3 (fun e => by have := HC.out.1 _ (HC.out.2.1 _ e.symm); omega)⟩⟩)
      have S1 := Lib.hid (CW.out W7.drew (Below.refl _ _).drew)
      have S2 := Lib.hid (CW.out (W7.alloc (.cells #[.int .i64 0, .string ⟨#[]⟩, .slice none 0 0, .slice none 0 0] 39)).drew (((Below.refl _ _).alloc (Nat.le_refl _) _).drew))
      obtain ⟨p0, p1, p2, _⟩ := call_cells HX7.out
      have hs7 : w.heap.size + 1 < W7.heap.size := HY7.out.lt
      have hs8 : w.heap.size < W7.heap.size := HX7.out.lt
      clear CW HA7 HR7
      go_cut [12] (fun s12 wx => ∃ (g : Nat) (q : Int) (t : ByteArray) (A6 : Option Addr) (n6 c6 : Nat) (A8 : Option Addr) (n8 c8 : Nat), s12 = .pointer (some ⟨g, 0, none⟩) ∧ Hid (FinA S k0 w wx g (.int .i64 q) (.string t) (.slice A6 n6 c6) (.slice A8 n8 c8) Yv))
      case first =>
        go_region_with (first
          | ((with_reducible refine S1.out.mono ?_); rintro e w8 ⟨K2, f2, cap2, rfl, eK, ⟨y0, y1, y2⟩, HH⟩; have eK2 : ∀ args w, (callFunc K2 args).run Tryz.prog w = .ok (.enter K2 args) w := eK; have hw8 : w.heap.size < w8.heap.size := by { have := HH.out.1.size; omega }; have CF1 := Lib.hid (HH.out.2.2 w8 (Below.refl _ _)); have CF2 := Lib.hid (HH.out.2.2 (w8.alloc (.cells #[.int .i64 0, .string ⟨#[]⟩, .slice none 0 0, .slice none 0 0] 39)) ((Below.refl _ _).alloc (Nat.le_refl _) _)); have HBn := Lib.hid (Blk.new w8 39 #[.int .i64 0, .string ⟨#[]⟩, .slice none 0 0, .slice none 0 0]))
          | ((with_reducible refine S2.out.mono ?_); rintro e w8 ⟨K2, f2, cap2, rfl, eK, ⟨y0, y1, y2⟩, HH⟩; have eK2 : ∀ args w, (callFunc K2 args).run Tryz.prog w = .ok (.enter K2 args) w := eK; have hw8 : w.heap.size < w8.heap.size := by { have := HH.out.1.size; omega }; have CF1 := Lib.hid (HH.out.2.2 w8 (Below.refl _ _)); have HBA : Hid (Blk w8 W7.heap.size 39 #[.int .i64 0, .string ⟨#[]⟩, .slice none 0 0, .slice none 0 0]) := Lib.hid (HH.out.2.1 _ _ _ (Blk.new W7 39 #[.int .i64 0, .string ⟨#[]⟩, .slice none 0 0, .slice none 0 0])))
          | ((with_reducible refine (useTok HBA CF1).mono ?_); rintro e w10 ⟨q, t, A6, n6, c6, A8, n8, c8, rfl, H10⟩; have HBg := Lib.hid (H10.out.2.2.2 _ _ _ (by omega) HBA.out); obtain ⟨z0, z1, z2, z3, z4, z5, z6, z7⟩ := ans_cells HBg.out)
          | ((with_reducible refine CF1.out.mono ?_); rintro e w10 ⟨q, t, A6, n6, c6, A8, n8, c8, rfl, H10⟩)
          | ((with_reducible refine CF2.out.mono ?_); rintro e w10 ⟨q, t, A6, n6, c6, A8, n8, c8, rfl, H10⟩; have HBm := Lib.hid (H10.out.2.2.2 _ _ _ (by have := HH.out.1.size; omega) HBn.out); obtain ⟨z0, z1, z2, z3, z4, z5, z6, z7⟩ := ans_cells HBm.out))
        all_goals
          go_wp2_with fail
          go_meet
        all_goals
          have hy8 := HY7.out.below HH.out.1 HY7.out.lt
          have h81 := HH.out.1.size
        all_goals first
          | (have _tk := HBg
             exact ⟨W7.heap.size, q, t, A6, n6, c6, A8, n8, c8, rfl, Lib.hid (fin_put hS hs7 H10.out.1 H10.out.2.1 H10.out.2.2.1 (H10.out.2.2.2 _ _ _ (by omega) hy8) HBg.out)⟩)
          | (have _tk := HBm
             exact ⟨w8.heap.size, q, t, A6, n6, c6, A8, n8, c8, rfl, Lib.hid (fin_put hS (by omega) H10.out.1 H10.out.2.1 H10.out.2.2.1 (H10.out.2.2.2 _ _ _ (by omega) (hy8.alloc _)) HBm.out)⟩)
          | exact ⟨w10.heap.size, q, t, A6, n6, c6, A8, n8, c8, rfl, Lib.hid (fin_new hS H10.out.1 H10.out.2.1 H10.out.2.2.1 (H10.out.2.2.2 _ _ _ (by omega) hy8))⟩
      case rest =>
        obtain ⟨g, q, t, A6, n6, c6, A8, n8, c8, rfl, HF⟩ := hcut
        obtain ⟨f1, f2, f3, f4, f5, f6⟩ := HF.out
        obtain ⟨hv, bv, e, g1, g2, g3, g4⟩ := f3
        simp at e
        obtain ⟨e1, e2, rfl, rfl⟩ := e
        have hn8 : Yv.1.body.length = n8 := by
          obtain ⟨A, c, e, _⟩ := g2.form
          injection e with _ e _
          exact e.symm
        rw [hn8] at g2 g4
        have HHr := Lib.hid (Hw.hr g1)
        have HOw := Lib.hid g2
        have HBd := Lib.hid (And.intro g3 g4)
        obtain ⟨z0, z1, z2, z3, z4, z5, z6, z7⟩ := ans_cells f2
        have hgl := f2.lt
        have HBg := Lib.hid (And.intro f2 (And.intro f6 f1))
        clear f1 f2 f4 f5 f6 p0 p1 p2 e1 e2 g1 g2 g3 g4 hn8 hs7 hs8
        go_wp2_with (first
          | (at_builtin
             refine wpList_app_h _ rfl (.tmp 57) rfl A6 n6 c6 Yv.1.hs rfl HHr.out ?_ ?_
             · have := HBd.out.1; have := HHr.out.1; omega
             intro A9 c9 w11 hown hb11
             have H11 := Lib.hid (And.intro hown hb11)
             have hX11 := HBg.out.1.below hb11 hgl
             have HX11 := Lib.hid hX11
             have hg11 := hX11.lt
             clear z0 z1 z2 z3 z4 z5 z6 z7
             obtain ⟨z0, z1, z2, z3, z4, z5, z6, z7⟩ := ans_cells hX11
             clear hown hb11 hX11)
          | (at_builtin
             refine wpList_app_b _ rfl (.tmp 61) rfl (w11.setCell ⟨g, 2, none⟩ (.slice A9 n6 c9)).heap.size A8 n8 c8 Yv.1.body rfl (owKt HOw.out byte_notAns ((Kt.below H11.out.2).trans (Kt.put HX11.out ans_not 2 (.slice A9 n6 c9)))).rd ?_ ?_
             · exact HBd.out.2
             intro A10 c10 w12 hown hb12
             have H12 := Lib.hid (And.intro hown hb12)
             have hX12 := (HX11.out.put 2 (.slice A9 n6 c9)).below hb12 (by simpa using hg11)
             have hY12 := ((HBg.out.2.1.below H11.out.2 HBg.out.2.1.lt).far (p := ⟨g, 2, none⟩) (by have := HBg.out.2.2; simp; omega) (.slice A9 n6 c9)).below hb12 (by have := (HBg.out.2.1.below H11.out.2 HBg.out.2.1.lt).lt; simpa using this)
             have hne : w.heap.size + 1 < g := HBg.out.2.2
             clear z0 z1 z2 z3 z4 z5 z6 z7
             obtain ⟨z0, z1, z2, z3, z4, z5, z6, z7⟩ := ans_cells hX12
             obtain ⟨y0, y1, y2, y3, y4, y5, y6, y7⟩ := ans_cells hY12
             clear hown hb12 hX12 hY12))
        obtain ⟨j1, j2, j3, j4⟩ := fin_end hS HF.out H11.out.1 H11.out.2 H12.out.1 H12.out.2
        exact bodyPost_ret (res15 _ _ (w.heap.size + 1) _ _ _ _ rfl rfl j1) rfl ⟨_, rfl, j2, j3, j4⟩
end Go.Proofs.YthokfopeddaiiaaGreatDoor
