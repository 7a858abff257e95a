/-
  Contract: parleylaw27.first: the chapter's examples.
-/
import Derived.Test.YthokfopeddaiiaaGreatDoorApp
import Derived.Test.YthokfopeddaiiaaGreatDoorMade
namespace Go.Proofs.YthokfopeddaiiaaGreatDoor
open Go.RowKit Go.Own Go.Own.Fn Go.Shelf
attribute [local go_sem] Oper.semAt_some
theorem eq_nf (W : World) (f : Go.Fn) (a b : Array Value) : (binOp .eql 51 (.func f a b) .nilFunc).run Tryz.prog W = .ok (.bool false) W := by
  have h : ∀ d : Nat, (Op.equalIn (d + 1) 51 (.func f a b) .nilFunc).run Tryz.prog W = .ok false W := fun d => by
    simp [Op.equalIn, run_underlying Tryz.underlying51]
  simp only [binOp]
  have := h (Op.maxDepth - 1)
  rw [show Op.maxDepth - 1 + 1 = Op.maxDepth by decide] at this
  simp [Op.equal, this, Result.andThen]
/-- No state. -/
def noS : Stt Unit := ⟨none, fun _ _ => True⟩
theorem noS_steady : Steady noS := fun _ _ _ _ _ => trivial
theorem noS_keeps : KeepsSt noS := fun _ _ _ _ _ => trivial
def noB (_ : Nat) : Prop := False
theorem first1_fnc (w : World) : Fnc Tryz.prog noS intL noB (.func (.func 27) #[] #[]) (fun x s => (wrap64 (2 * x), s)) w := by
  refine ⟨27, #[], #[], rfl, enters_of Tryz.func27 (by kernel_rfl) rfl, fun w s xv x _ _ hxv => ?_⟩
  obtain rfl : xv = .int .i64 x := hxv
  show Calls Tryz.prog 27 #[.int .i64 x] w _
  go_enter Tryz.func27, Tryz.ntmps27
  go_wp2
  go_ret
  exact ⟨_, rfl, rfl, trivial, World.grownBy.refl _ _⟩
theorem first2_pur (w : World) : Pur Tryz.prog noB (.func (.func 29) #[] #[]) (fun x => .int .i64 (wrap64 (x + 1))) w := by
  refine ⟨29, #[], rfl, enters_of Tryz.func29 (by kernel_rfl) rfl, fun w x _ => ?_⟩
  show Calls Tryz.prog 29 #[.int .i64 x] w _
  go_enter Tryz.func29, Tryz.ntmps29
  go_wp2
  go_ret
  exact ⟨rfl, Below.refl _ _⟩
theorem first3_pur (w : World) : Pur Tryz.prog noB (.func (.func 31) #[] #[]) (fun x => .int .i64 (wrap64 (x + 10))) w := by
  refine ⟨31, #[], rfl, enters_of Tryz.func31 (by kernel_rfl) rfl, fun w x _ => ?_⟩
  show Calls Tryz.prog 31 #[.int .i64 x] w _
  go_enter Tryz.func31, Tryz.ntmps31
  go_wp2
  go_ret
  exact ⟨rfl, Below.refl _ _⟩
theorem res32 (tmps : Array Value) (w : World) (g : Nat) (a b c d : Value) (ht : tmps[2]? = some (.pointer (some ⟨g, 0, none⟩))) (hb : Blk w g 39 #[a, b, c, d]) :
    (results Tryz.f32 tmps).run Tryz.prog w = .ok (.agg #[a, b, c, d]) w := by
  have c0 : w.cell? ⟨g, 0, none⟩ = some a := hb.cell 0
  have c1 : w.cell? ⟨g, 1, none⟩ = some b := hb.cell 1
  have c2 : w.cell? ⟨g, 2, none⟩ = some c := hb.cell 2
  have c3 : w.cell? ⟨g, 3, none⟩ = some d := hb.cell 3
  simp [results, Tryz.results32, go_sem, ht, c0, c1, c2, c3]
theorem first4_fnc (k : Nat) (hk : k ≤ 1000) (w : World) : Fnc Tryz.prog noS (callL k) noB (.func (.func 32) #[] #[]) (fun _ s => (⟨0, ⟨#[]⟩, [], []⟩, s)) w := by
  refine ⟨32, #[], #[], rfl, enters_of Tryz.func32 (by kernel_rfl) rfl, fun w s xv x _ _ hxv => ?_⟩
  obtain ⟨hv, bv, rfl, h1, h2, _⟩ := hxv
  obtain ⟨A1, c1, rfl, _⟩ := h1.form
  obtain ⟨A2, c2, rfl⟩ := owSlc h2
  show Calls Tryz.prog 32 #[.agg #[.string x.path, .slice A1 x.hs.length c1, .slice A2 x.body.length c2]] w _
  have HK := Lib.hid hk
  clear h1 h2 hk
  go_enter Tryz.func32, Tryz.ntmps32
  go_wp2
  obtain ⟨r1, r2, r3⟩ := room2 w (.string x.path) (.slice A1 x.hs.length c1) (.slice A2 x.body.length c2)
  exact bodyPost_ret (res32 _ _ (w.heap.size + 1) _ _ _ _ rfl r3) rfl ⟨_, rfl, ⟨_, _, rfl, Hw.nil _ _, ⟨rfl, .inl ⟨rfl, rfl⟩⟩, by simpa using HK.out, by simp⟩, trivial, grown_of_below r1 _⟩
def tagR : RuleV := ⟨⟨#[]⟩, ⟨#[116]⟩, ⟨#[49]⟩, 6, 0, 0⟩
def limR : RuleV := ⟨⟨#[]⟩, ⟨#[]⟩, ⟨#[]⟩, 5, 8, 2⟩
theorem tag_fit : RuleFit tagR := .inr (.inl ⟨rfl, fun W he => meta_one ⟨#[116]⟩ (.inl rfl) 49 (by decide) (by decide) W he⟩)
theorem lim_fit : RuleFit limR := .inr (.inr ⟨rfl, by decide, by decide, by decide⟩)
def exC : CallV := ⟨⟨#[]⟩, [], [1, 2, 3]⟩
theorem ex_ans : (wrapS (ruleAs 0 [tagR, limR]) (fun (_ : CallV) (s : Unit) => ((⟨0, ⟨#[]⟩, [], []⟩ : AnsV), s)) exC ()).1 = ⟨8, itoa 1, [⟨⟨#[116]⟩, ⟨#[49]⟩, false⟩], []⟩ := by
  simp [ruleAs, wrapS, ruleA, tagR, limR, endF, limF, exC, addA]
/-- The numbers' example. -/
def exF : Int → Unit → Int × Unit := wrapS [fun F x s => F (wrap64 (x + 1)) s, fun F x s => (wrap64 ((F x s).1 + 10), (F x s).2)] (fun x s => (wrap64 (2 * x), s))
theorem exF_3 : (exF 3 ()).1 = 18 := by simp [exF, wrapS, wrap64]
theorem itoa_1 : itoa 1 = ⟨#[49]⟩ := by unfold itoa; exact congrArg ByteArray.mk (by decide +kernel)
def exRules : Array Value := tagR.cells ++ limR.cells
theorem ex_rules {W : World} {g : Nat} (h : Blk W g 46 exRules) : Rs W (some ⟨g, 0, none⟩) 2 [tagR, limR] := by
  refine ⟨rfl, fun j r hr => ?_⟩
  rcases j with _ | _ | j
  · simp at hr; subst hr
    refine ⟨_, rfl, h.lt, h.cell 0, fun i v hi hv => ?_⟩
    show W.cell? ⟨g, 0 + i, none⟩ = some v
    rw [h.cell (0 + i), Nat.zero_add]
    have hi6 : i < 6 := (Array.getElem?_eq_some_iff.1 hv).1
    rw [← hv]
    rcases i with _ | _ | _ | _ | _ | _ | i <;> first | rfl | omega
  · simp at hr; subst hr
    refine ⟨_, rfl, h.lt, h.cell 6, fun i v hi hv => ?_⟩
    show W.cell? ⟨g, 6 + i, none⟩ = some v
    rw [h.cell (6 + i)]
    have hi6 : i < 6 := (Array.getElem?_eq_some_iff.1 hv).1
    rw [← hv]
    rcases i with _ | _ | _ | _ | _ | _ | i <;> first | rfl | omega
  · simp at hr
theorem ex_fit : ∀ r ∈ [tagR, limR], RuleFit r ∧ r.path = ⟨#[]⟩ := by
  intro r hr
  simp only [List.mem_cons, List.not_mem_nil, or_false] at hr
  rcases hr with rfl | rfl
  · exact ⟨tag_fit, rfl⟩
  · exact ⟨lim_fit, rfl⟩
def FstPost (w : World) (e : Ending) (w' : World) : Prop := e = .returned (.bool true) ∧ Below w.heap.size w w'
set_option maxHeartbeats 4000000 in
set_option maxRecDepth 100000 in
theorem first_any (w : World) (he : EnvC w) : Calls Tryz.prog 8 #[] w (FstPost w) := by
  have HE := Lib.hid he
  have C1 := Lib.hid (before_i noS noS_steady noB _ _ w (fun g h => h.elim) (first2_pur w))
  clear he
  go_enter Tryz.func8, Tryz.ntmps8
  go_wp2_with fail
  refine C1.out.mono ?_
  rintro e w1 ⟨r1, rfl, g1, g2⟩
  have HR1 := Lib.hid (And.intro g1 g2)
  have C2 := Lib.hid (after_i noS noS_steady noB (fun g h => by cases h) _ _ w1 (fun g h => h.elim) (first3_pur w1))
  obtain ⟨K1, f1, c1, rfl, _⟩ := g1
  clear g2 C1
  go_wp2_with fail
  refine C2.out.mono ?_
  rintro e w2 ⟨r2, rfl, g1, g2⟩
  have HR2 := Lib.hid (And.intro g1 g2)
  obtain ⟨K2, f2, c2, rfl, _⟩ := g1
  clear g2 C2
  go_wp2_with fail
  have hb3 : Below w2.heap.size w2 (w2.alloc (.cells #[.func (.func K1) f1 c1, .func (.func K2) f2 c2] 54)) := (Below.refl _ _).alloc (Nat.le_refl _) _
  have hnew := Blk.new w2 54 #[.func (.func K1) f1 c1, .func (.func K2) f2 c2]
  have C3 := Lib.hid (wrap_i noS (fun _ => intL) 0 noB _ _ (some ⟨w2.heap.size, 0, none⟩) 2 2 [fun F x s => F (wrap64 (x + 1)) s, fun F x s => (wrap64 ((F x s).1 + 10), (F x s).2)] (w2.alloc (.cells #[.func (.func K1) f1 c1, .func (.func K2) f2 c2] 54)) (fun g h => by cases h) (fun g h => h.elim) (by omega) (first1_fnc _)
    ⟨rfl, fun j B hB => by
      rcases j with _ | _ | j
      · simp at hB; subst hB
        exact ⟨_, _, rfl, by simp, hnew.cell 0, (HR1.out.1.kx (Kx.below HR2.out.2)).kx (Kx.below hb3)⟩
      · simp at hB; subst hB
        exact ⟨_, _, rfl, by simp, hnew.cell 1, HR2.out.1.kx (Kx.below hb3)⟩
      · simp at hB⟩)
  have HB3 := Lib.hid (HR1.out.2.trans ((HR2.out.2.trans (hb3.mono HR2.out.2.size)).mono HR1.out.2.size))
  clear hb3 hnew HR1 HR2
  refine C3.out.mono ?_
  rintro e w3 ⟨r3, rfl, g1, g2⟩
  have HF3 := Lib.hid g1
  have HB4 := Lib.hid (HB3.out.trans (g2.mono HB3.out.size))
  obtain ⟨K3, f3, c3, rfl, hE3, _⟩ := g1
  have hE3 : ∀ args w, (callFunc K3 args).run Tryz.prog w = .ok (.enter K3 args) w := hE3
  have hq := fun W => eq_nf W (.func K3) f3 c3
  clear g2 C3 HB3
  go_wp2_with fail
  obtain ⟨W, hW⟩ : ∃ W, (w3.alloc (.cells exRules 46)).alloc (.cells #[.int .u8 1, .int .u8 2, .int .u8 3] 5) = W := ⟨_, rfl⟩
  have hr1 : Blk W w3.heap.size 46 exRules := hW ▸ (Blk.new _ _ _).alloc _
  have hr2 : Blk W (w3.heap.size + 1) 5 #[.int .u8 1, .int .u8 2, .int .u8 3] := by
    have := Blk.new (w3.alloc (.cells exRules 46)) 5 #[.int .u8 1, .int .u8 2, .int .u8 3]
    rw [hW] at this
    simpa using this
  have hb5 : Below w3.heap.size w3 W := hW ▸ ((Below.refl _ _).alloc (Nat.le_refl _) _).alloc (by simp) _
  have HB5 := Lib.hid (HB4.out.trans (hb5.mono HB4.out.size))
  have C4 := apply_fit noS noS_keeps 0 noB (some ⟨w3.heap.size, 0, none⟩) none (some ⟨w3.heap.size + 1, 0, none⟩) 2 2 0 0 3 3 [tagR, limR] exC _ _ () W (by omega) (by omega) (fun g h => h.elim) (fun g h => by cases h) (HE.out.below HB5.out) (ex_rules hr1)
    ex_fit
    ⟨rfl, fun j u hu => by simp [exC, hcells] at hu⟩ ⟨rfl, fun _ => ⟨_, rfl, hr2.lt, fun j hj => by
      rcases j with _ | _ | _ | j
      · exact hr2.cell 0
      · exact hr2.cell 1
      · exact hr2.cell 2
      · omega⟩⟩ (by simp [exC]) (by simp [exC]) (first4_fnc 2 (by omega) W) trivial
  rw [← hW] at C4
  have HF5 := Lib.hid (HF3.out.kx (Kx.below hb5))
  rw [← hW] at HB5 HF5
  clear hW hr1 hr2 hb5 HB5 HF5
  refine Calls.mono C4 ?_
  rintro e w4 ⟨yv, rfl, g1, _, g3⟩
  have g1 : RYk 0 w4 yv (⟨8, itoa 1, [⟨⟨#[116]⟩, ⟨#[49]⟩, false⟩], []⟩ : AnsV) := ex_ans ▸ g1
  rw [itoa_1] at g1
  obtain ⟨hv, bv, rfl, h1, h2, _⟩ := g1
  obtain ⟨A9, c9, rfl, _⟩ := h1.form
  obtain ⟨A8, c8, rfl⟩ := owSlc h2
  have hb6 : Below w3.heap.size w3 w4 := by
    have hw := (Below.refl w3.heap.size w3).alloc (Nat.le_refl _) (.cells exRules 46)
    have hw2 := hw.alloc hw.size (.cells #[.int .u8 1, .int .u8 2, .int .u8 3] 5)
    exact hw2.trans ⟨g3.os, g3.tape, g3.output, g3.size, fun i hi => g3.block i (by have := hw2.size; omega) (fun e => by cases e)⟩
  have HB6 := Lib.hid hb6
  clear h1 h2 g3 g1 hb6
  go_wp2_with fail
  have hA := Blk.new w4 39 #[.int .i64 8, .string ⟨#[49]⟩, .slice A9 1 c9, .slice A8 0 c8]
  have hb7 : Below w3.heap.size w3 (w4.alloc (.cells #[.int .i64 8, .string ⟨#[49]⟩, .slice A9 1 c9, .slice A8 0 c8] 39)) := HB6.out.alloc HB6.out.size _
  have C5 : Hid (Calls Tryz.prog K3 (f3.push (.int .i64 3) ++ c3) (w4.alloc (.cells #[.int .i64 8, .string ⟨#[49]⟩, .slice A9 1 c9, .slice A8 0 c8] 39)) fun e w8 => e = .returned (.int .i64 18) ∧
      (w8.cell? ⟨w4.heap.size, 0, none⟩ = some (.int .i64 8) ∧ w8.cell? ⟨w4.heap.size, 1, none⟩ = some (.string ⟨#[49]⟩) ∧ w8.cell? ⟨w4.heap.size, 2, none⟩ = some (.slice A9 1 c9)) ∧ Hid (Below w.heap.size w w8)) := Lib.hid (by
    obtain ⟨K, f, c, e, _, hc⟩ := HF3.out
    obtain ⟨rfl, rfl, rfl⟩ : K = K3 ∧ f = f3 ∧ c = c3 := by
      injection e with e1 e2 e3
      injection e1 with e1
      exact ⟨e1.symm, e2.symm, e3.symm⟩
    refine (hc _ () (.int .i64 3) 3 (Kx.below hb7) trivial rfl).mono ?_
    rintro e w8 ⟨yv, rfl, k1, _, k3⟩
    have k1 : yv = .int .i64 (exF 3 ()).1 := k1
    rw [exF_3] at k1
    subst k1
    have hA8 := hA.grown k3 (by intro e; cases e)
    refine ⟨rfl, ⟨hA8.cell 0, hA8.cell 1, hA8.cell 2⟩, Lib.hid ?_⟩
    exact (HB4.out.trans (hb7.mono HB4.out.size)).trans ⟨k3.os, k3.tape, k3.output, k3.size, fun i hi => k3.block i (by have := HB4.out.size; have := hb7.size; omega) (fun e => by cases e)⟩)
  clear hA hb7 HF3 HB6
  refine C5.out.mono ?_
  rintro e w8 ⟨rfl, ⟨a0, a1, a2⟩, HB8⟩
  clear C5
  go_wp2_with fail
  refine (matches_star _).mono ?_
  rintro e w9 ⟨rfl, rfl⟩
  go_wp2_with fail
  refine (matches_not _).mono ?_
  rintro e w9 ⟨rfl, rfl⟩
  go_wp2_with fail
  go_ret
  exact ⟨rfl, HB8.out⟩
end Go.Proofs.YthokfopeddaiiaaGreatDoor
