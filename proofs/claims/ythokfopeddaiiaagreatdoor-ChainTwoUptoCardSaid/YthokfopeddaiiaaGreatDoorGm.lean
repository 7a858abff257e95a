/-
  Contracts: chain.Matches of any texts; what rules of all kinds may be; the questions of the kinds Need and Deny.
-/
import Derived.Test.YthokfopeddaiiaaGreatDoorMt
import Derived.Test.YthokfopeddaiiaaGreatDoorKnd
import Derived.Test.YthokfopeddaiiaaGreatDoorMch
namespace Go.Proofs.YthokfopeddaiiaaGreatDoor
open Go.RowKit Go.Own Go.Own.Fn Go.Own.Head Go.Shelf
/-- chain.Matches -/
def matB (p q : ByteArray) : Bool := p.toList.isEmpty || (p.toList == q.toList) || (Lib.hasSuffix p.data.toList [42] && Lib.hasPrefix q.data.toList (Lib.trimSuffix p.data.toList [42]))
set_option maxHeartbeats 1000000 in
set_option maxRecDepth 100000 in
theorem matches_any (p q : ByteArray) (hp : p.size ≤ 1000000000) (w : World) : Calls Tryz.prog 33 #[.string p, .string q] w fun e w' => e = .returned (.bool (matB p q)) ∧ w = w' := by
  have hs := Tryz.strings_CutSuffix p ⟨#[42]⟩ w (by omega)
  have hM : matB p q = (p.toList.isEmpty || (p.toList == q.toList) || (Lib.hasSuffix p.data.toList [42] && Lib.hasPrefix q.data.toList (Lib.trimSuffix p.data.toList [42]))) := rfl
  have hpre := fun W => (Tryz.strings_HasPrefix q ⟨(Lib.trimSuffix p.data.toList [42]).toArray⟩ W).mono (fun e w' h => (⟨h.1, h.2.symm⟩ : e = .returned (.bool (Lib.hasPrefix q.data.toList (Lib.trimSuffix p.data.toList [42]))) ∧ W = w'))
  rw [show (⟨#[42]⟩ : ByteArray).data.toList = [42] from rfl] at hs
  obtain ⟨T, hT⟩ : ∃ T : ByteArray, ⟨(Lib.trimSuffix p.data.toList [42]).toArray⟩ = T := ⟨_, rfl⟩
  obtain ⟨sb, hsb⟩ : ∃ b, Lib.hasSuffix p.data.toList [42] = b := ⟨_, rfl⟩
  obtain ⟨pb, hpb⟩ : ∃ b, Lib.hasPrefix q.data.toList (Lib.trimSuffix p.data.toList [42]) = b := ⟨_, rfl⟩
  rw [hT, hsb] at hs
  rw [hT, hpb] at hpre
  rw [hsb, hpb] at hM
  obtain ⟨eb, heb⟩ : ∃ b, p.toList.isEmpty = b := ⟨_, rfl⟩
  obtain ⟨qb, hqb⟩ : ∃ b, (p.toList == q.toList) = b := ⟨_, rfl⟩
  rw [heb, hqb] at hM
  have HS := Lib.hid hs
  have HP := Lib.hid hpre
  have HM := Lib.hid hM
  clear hs hpre hM hT hsb hpb hp
  rcases eb with _ | _
  · rcases qb with _ | _
    · rcases sb with _ | _
      · go_enter Tryz.func33, Tryz.ntmps33
        go_wp2_with ((with_reducible refine HS.out.mono ?_); rintro e w1 ⟨rfl, rfl⟩)
        go_ret
        exact ⟨by rw [HM.out]; rfl, rfl⟩
      · go_enter Tryz.func33, Tryz.ntmps33
        go_wp2_with (first
          | ((with_reducible refine HS.out.mono ?_); rintro e w1 ⟨rfl, rfl⟩)
          | ((with_reducible refine (HP.out _).mono ?_); rintro e w1 ⟨rfl, rfl⟩))
        go_ret
        exact ⟨by rw [HM.out]; rfl, rfl⟩
    · go_enter Tryz.func33, Tryz.ntmps33
      go_wp2_with ((with_reducible refine HS.out.mono ?_); rintro e w1 ⟨rfl, rfl⟩)
      go_ret
      exact ⟨by rw [HM.out]; rfl, rfl⟩
  · go_enter Tryz.func33, Tryz.ntmps33
    go_wp2_with ((with_reducible refine HS.out.mono ?_); rintro e w1 ⟨rfl, rfl⟩)
    go_ret
    exact ⟨by rw [HM.out]; cases qb <;> rfl, rfl⟩
def codeB (r : RuleV) : Bool := decide (1 ≤ r.code) && decide (r.code ≤ 16)
/-- What the question of a rule's kind, whether it may be, answers. -/
def MayIs (r : RuleV) (b : Bool) : Prop :=
  ((r.kind = 1 ∨ r.kind = 6) ∧ Det 11 #[.string r.name, .string r.value] b) ∨ (r.kind = 2 ∧ b = nameB r.name.data.toList) ∨ ((r.kind = 3 ∨ r.kind = 4) ∧ b = (nameB r.name.data.toList && codeB r)) ∨ (r.kind = 5 ∧ b = (codeB r && decide (0 ≤ r.n)))
def known (r : RuleV) : Bool := decide (1 ≤ r.kind ∧ r.kind ≤ 6)
def SzR (r : RuleV) : Prop := r.path.size ≤ 1000000000 ∧ r.name.size ≤ 1000000000 ∧ r.value.size ≤ 1000000000
theorem may_is (r : RuleV) (hk : known r = true) (hs : SzR r) : ∃ b, MayIs r b := by
  have hk := of_decide_eq_true hk
  obtain ⟨b, hb⟩ := meta_det r.name r.value hs.2.1 hs.2.2
  have : r.kind = 1 ∨ r.kind = 2 ∨ r.kind = 3 ∨ r.kind = 4 ∨ r.kind = 5 ∨ r.kind = 6 := by omega
  rcases this with h | h | h | h | h | h
  · exact ⟨b, .inl ⟨.inl h, hb⟩⟩
  · exact ⟨_, .inr (.inl ⟨h, rfl⟩)⟩
  · exact ⟨_, .inr (.inr (.inl ⟨.inl h, rfl⟩))⟩
  · exact ⟨_, .inr (.inr (.inl ⟨.inr h, rfl⟩))⟩
  · exact ⟨_, .inr (.inr (.inr ⟨h, rfl⟩))⟩
  · exact ⟨b, .inl ⟨.inr h, hb⟩⟩
open Classical in
noncomputable def mayB (r : RuleV) : Bool := if h : ∃ b, MayIs r b then Classical.choose h else false
theorem mayB_is (r : RuleV) (hk : known r = true) (hs : SzR r) : MayIs r (mayB r) := by
  have h := may_is r hk hs
  unfold mayB
  rw [dif_pos h]
  exact Classical.choose_spec h
/-- A rule that may be. -/
noncomputable def okR (r : RuleV) : Bool := known r && mayB r
theorem may_meta_b (r : RuleV) (b : Bool) (w : World) (he : EnvC w) (hm : Det 11 #[.string r.name, .string r.value] b) : Calls Tryz.prog 53 #[.agg r.cells] w fun e w' => e = .returned (.bool b) ∧ Below w.heap.size w w' := by
  obtain ⟨hb, _⟩ := rule_room w r
  have HM := Lib.hid (hm _ (he.below hb))
  have HB := Lib.hid hb
  obtain ⟨x0, x1, x2, x3, x4, x5⟩ := r
  simp only [RuleV.cells]
  clear hb hm he
  go_enter Tryz.func53, Tryz.ntmps53
  go_wp2_with fail
  refine HM.out.mono ?_
  rintro e w1 ⟨rfl, h1⟩
  have HB1 := Lib.hid (HB.out.trans (h1.mono HB.out.size))
  clear h1
  go_wp2
  go_ret
  exact ⟨rfl, HB1.out⟩
theorem may_name_b (r : RuleV) (w : World) (he : EnvC w) (hs : r.name.size ≤ 1000000000) : Calls Tryz.prog 59 #[.agg r.cells] w fun e w' => e = .returned (.bool (nameB r.name.data.toList)) ∧ Below w.heap.size w w' := by
  obtain ⟨hb, _⟩ := rule_room w r
  have HM := Lib.hid (name_det r.name hs _ (he.below hb))
  have HB := Lib.hid hb
  generalize nameB r.name.data.toList = b at HM ⊢
  obtain ⟨x0, x1, x2, x3, x4, x5⟩ := r
  simp only [RuleV.cells]
  clear hb hs he
  go_enter Tryz.func59, Tryz.ntmps59
  go_wp2_with fail
  refine HM.out.mono ?_
  rintro e w1 ⟨rfl, h1⟩
  have HB1 := Lib.hid (HB.out.trans (h1.mono HB.out.size))
  clear h1
  go_wp2
  go_ret
  exact ⟨rfl, HB1.out⟩
theorem code_any (r : RuleV) (w : World) : Calls Tryz.prog 52 #[.agg r.cells] w fun e w' => e = .returned (.bool (codeB r)) ∧ Below w.heap.size w w' := by
  have hc : codeB r = (decide (1 ≤ r.code) && decide (r.code ≤ 16)) := rfl
  have HC := Lib.hid hc
  clear hc
  obtain ⟨x0, x1, x2, x3, x4, x5⟩ := r
  simp only [RuleV.cells] at HC ⊢
  by_cases h1 : 1 ≤ x4
  · by_cases h2 : x4 ≤ 16
    · have HV := Lib.hid (show codeB ⟨x0, x1, x2, x3, x4, x5⟩ = true by rw [HC.out]; simp [h1, h2])
      clear HC
      go_enter Tryz.func52, Tryz.ntmps52
      go_wp2
      go_ret
      exact ⟨by rw [HV.out]; rfl, (Below.refl _ _).alloc (Nat.le_refl _) _⟩
    · have HV := Lib.hid (show codeB ⟨x0, x1, x2, x3, x4, x5⟩ = false by rw [HC.out]; simp [h2])
      have h2d : decide (x4 ≤ 16) = false := decide_eq_false h2
      clear HC
      go_enter Tryz.func52, Tryz.ntmps52
      go_wp2
      go_ret
      exact ⟨by rw [HV.out]; rfl, (Below.refl _ _).alloc (Nat.le_refl _) _⟩
  · have HV := Lib.hid (show codeB ⟨x0, x1, x2, x3, x4, x5⟩ = false by rw [HC.out]; simp [h1])
    have h1d : decide (1 ≤ x4) = false := decide_eq_false h1
    clear HC
    go_enter Tryz.func52, Tryz.ntmps52
    go_wp2
    go_ret
    exact ⟨by rw [HV.out]; rfl, (Below.refl _ _).alloc (Nat.le_refl _) _⟩
theorem may_need_b6 (r : RuleV) (b : Nat) (w : World) (he : EnvC w) (hs : r.name.size ≤ 1000000000) (hb : Blk w b 67 #[fnv 52]) : Calls Tryz.prog 64 #[.agg r.cells, .pointer (some ⟨b, 0, none⟩)] w fun e w' => e = .returned (.bool (nameB r.name.data.toList && codeB r)) ∧ Below w.heap.size w w' := by
  obtain ⟨hb0, hr0⟩ := rule_room w r
  have HM := Lib.hid (name_det r.name hs _ (he.below hb0))
  have HC := Lib.hid (fun W => code_any r W)
  have HB := Lib.hid hb0
  have HR := Lib.hid hr0
  have HF := Lib.hid hb
  have l1 := hb.lt
  generalize nameB r.name.data.toList = nb at HM ⊢
  generalize codeB r = cb at HC ⊢
  obtain ⟨x0, x1, x2, x3, x4, x5⟩ := r
  simp only [RuleV.cells] at HC HR ⊢
  clear hb0 hr0 hb hs he
  rcases nb with _ | _
  · go_enter Tryz.func64, Tryz.ntmps64
    go_wp2_with fail
    refine HM.out.mono ?_
    rintro e w1 ⟨rfl, g1⟩
    have HB1 := Lib.hid (HB.out.trans (g1.mono HB.out.size))
    clear g1
    go_wp2
    go_ret
    exact ⟨rfl, HB1.out⟩
  · go_enter Tryz.func64, Tryz.ntmps64
    go_wp2_with fail
    refine HM.out.mono ?_
    rintro e w1 ⟨rfl, g1⟩
    have HB1 := Lib.hid (HB.out.trans (g1.mono HB.out.size))
    have HR1 := Lib.hid (HR.out.below g1 HR.out.lt)
    have c1 : w1.cell? ⟨b, 0, none⟩ = some (.func (.func 52) #[] #[]) := (HF.out.below HB1.out HF.out.lt).cell 0
    have d0 : w1.cell? ⟨w.heap.size, 0, none⟩ = some (.string x0) := HR1.out.cell 0
    have d1 : w1.cell? ⟨w.heap.size, 1, none⟩ = some (.string x1) := HR1.out.cell 1
    have d2 : w1.cell? ⟨w.heap.size, 2, none⟩ = some (.string x2) := HR1.out.cell 2
    have d3 : w1.cell? ⟨w.heap.size, 3, none⟩ = some (.int .i64 x3) := HR1.out.cell 3
    have d4 : w1.cell? ⟨w.heap.size, 4, none⟩ = some (.int .i64 x4) := HR1.out.cell 4
    have d5 : w1.cell? ⟨w.heap.size, 5, none⟩ = some (.int .i64 x5) := HR1.out.cell 5
    clear g1
    go_wp2_with fail
    refine (HC.out _).mono ?_
    rintro e w2 ⟨rfl, g2⟩
    have HB2 := Lib.hid (HB1.out.trans (g2.mono HB1.out.size))
    clear g2
    go_wp2
    go_ret
    exact ⟨rfl, HB2.out⟩
theorem may_need_b8 (r : RuleV) (b : Nat) (w : World) (he : EnvC w) (hs : r.name.size ≤ 1000000000) (hb : Blk w b 67 #[fnv 52]) : Calls Tryz.prog 68 #[.agg r.cells, .pointer (some ⟨b, 0, none⟩)] w fun e w' => e = .returned (.bool (nameB r.name.data.toList && codeB r)) ∧ Below w.heap.size w w' := by
  obtain ⟨hb0, hr0⟩ := rule_room w r
  have HM := Lib.hid (name_det r.name hs _ (he.below hb0))
  have HC := Lib.hid (fun W => code_any r W)
  have HB := Lib.hid hb0
  have HR := Lib.hid hr0
  have HF := Lib.hid hb
  have l1 := hb.lt
  generalize nameB r.name.data.toList = nb at HM ⊢
  generalize codeB r = cb at HC ⊢
  obtain ⟨x0, x1, x2, x3, x4, x5⟩ := r
  simp only [RuleV.cells] at HC HR ⊢
  clear hb0 hr0 hb hs he
  rcases nb with _ | _
  · go_enter Tryz.func68, Tryz.ntmps68
    go_wp2_with fail
    refine HM.out.mono ?_
    rintro e w1 ⟨rfl, g1⟩
    have HB1 := Lib.hid (HB.out.trans (g1.mono HB.out.size))
    clear g1
    go_wp2
    go_ret
    exact ⟨rfl, HB1.out⟩
  · go_enter Tryz.func68, Tryz.ntmps68
    go_wp2_with fail
    refine HM.out.mono ?_
    rintro e w1 ⟨rfl, g1⟩
    have HB1 := Lib.hid (HB.out.trans (g1.mono HB.out.size))
    have HR1 := Lib.hid (HR.out.below g1 HR.out.lt)
    have c1 : w1.cell? ⟨b, 0, none⟩ = some (.func (.func 52) #[] #[]) := (HF.out.below HB1.out HF.out.lt).cell 0
    have d0 : w1.cell? ⟨w.heap.size, 0, none⟩ = some (.string x0) := HR1.out.cell 0
    have d1 : w1.cell? ⟨w.heap.size, 1, none⟩ = some (.string x1) := HR1.out.cell 1
    have d2 : w1.cell? ⟨w.heap.size, 2, none⟩ = some (.string x2) := HR1.out.cell 2
    have d3 : w1.cell? ⟨w.heap.size, 3, none⟩ = some (.int .i64 x3) := HR1.out.cell 3
    have d4 : w1.cell? ⟨w.heap.size, 4, none⟩ = some (.int .i64 x4) := HR1.out.cell 4
    have d5 : w1.cell? ⟨w.heap.size, 5, none⟩ = some (.int .i64 x5) := HR1.out.cell 5
    clear g1
    go_wp2_with fail
    refine (HC.out _).mono ?_
    rintro e w2 ⟨rfl, g2⟩
    have HB2 := Lib.hid (HB1.out.trans (g2.mono HB1.out.size))
    clear g2
    go_wp2
    go_ret
    exact ⟨rfl, HB2.out⟩
theorem may_limit_b (r : RuleV) (b : Nat) (w : World) (hb : Blk w b 67 #[fnv 52]) : Calls Tryz.prog 72 #[.agg r.cells, .pointer (some ⟨b, 0, none⟩)] w fun e w' => e = .returned (.bool (codeB r && decide (0 ≤ r.n))) ∧ Below w.heap.size w w' := by
  have HC := Lib.hid (code_any r (w.alloc (ruleB r)))
  obtain ⟨hb0, hr0⟩ := rule_room w r
  have HB := Lib.hid hb0
  have HR := Lib.hid hr0
  have l1 := hb.lt
  have c1 : w.cell? ⟨b, 0, none⟩ = some (.func (.func 52) #[] #[]) := hb.cell 0
  generalize codeB r = cb at HC ⊢
  obtain ⟨p, q, c, d, e, f⟩ := r
  simp only [RuleV.cells] at HC HR ⊢
  clear hb0 hr0 hb
  rcases cb with _ | _
  · go_enter Tryz.func72, Tryz.ntmps72
    go_wp2_with fail
    refine HC.out.mono ?_
    rintro e w1 ⟨rfl, g1⟩
    have HB1 := Lib.hid (HB.out.trans (g1.mono HB.out.size))
    clear g1
    go_wp2
    go_ret
    exact ⟨rfl, HB1.out⟩
  · go_enter Tryz.func72, Tryz.ntmps72
    go_wp2_with fail
    refine HC.out.mono ?_
    rintro e w1 ⟨rfl, g1⟩
    have HB1 := Lib.hid (HB.out.trans (g1.mono HB.out.size))
    have c5 : w1.cell? ⟨w.heap.size, 5, none⟩ = some (.int .i64 f) := (HR.out.below g1 HR.out.lt).cell 5
    clear g1
    by_cases hf : 0 ≤ f
    · have hd : decide (0 ≤ f) = true := decide_eq_true hf
      go_wp2
      go_ret
      exact ⟨by rw [hd]; rfl, HB1.out⟩
    · have hd : decide (0 ≤ f) = false := decide_eq_false hf
      go_wp2
      go_ret
      exact ⟨by rw [hd]; rfl, HB1.out⟩
end Go.Proofs.YthokfopeddaiiaaGreatDoor
