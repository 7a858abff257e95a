/-
  Contract: chain.Valid of any rules.
-/
import Derived.Test.YthokfopeddaiiaaGreatDoorVg
import Derived.LoopTactic
import Derived.Deep.RegionLaw
import Derived.Deep.DeepCutAuto
namespace Go.Proofs.YthokfopeddaiiaaGreatDoor
open Go.RowKit Go.Own Go.Own.Fn Go.Shelf
variable {σ : Type}
/-- What sorts answers, for a rule of a known kind that lies in block g. -/
theorem sorts_known (σ : Type) (W1 W : World) (g : Nat) (r : RuleV) (hkn : known r = true) (hs : SzR r) (hg : Blk W1 g 46 r.cells) (hb : Below W1.heap.size W1 W) :
    Calls Tryz.prog 34 #[] W fun e w2 => ∃ m mK aK mC aC, e = .returned (.map (some m)) ∧
      (w2.cell? ⟨g, 0, none⟩ = some (.string r.path) ∧ w2.cell? ⟨g, 1, none⟩ = some (.string r.name) ∧ w2.cell? ⟨g, 2, none⟩ = some (.string r.value) ∧ w2.cell? ⟨g, 3, none⟩ = some (.int .i64 r.kind) ∧ w2.cell? ⟨g, 4, none⟩ = some (.int .i64 r.code) ∧ w2.cell? ⟨g, 5, none⟩ = some (.int .i64 r.n)) ∧
      (∀ o, (w2.alloc o).cell? ⟨g, 3, none⟩ = some (.int .i64 r.kind)) ∧
      (Instr.lookup 72 (.map (some m)) (.int .i64 r.kind) true).run Tryz.prog w2 = .ok (.tuple #[.agg #[.func (.func mK) #[] mC, .func (.func aK) #[] aC], .bool true]) w2 ∧
      (Instr.lookup 72 (.map (some m)) (.int .i64 r.kind) false).run Tryz.prog w2 = .ok (.agg #[.func (.func mK) #[] mC, .func (.func aK) #[] aC]) w2 ∧
      (∀ o, (Instr.lookup 72 (.map (some m)) (.int .i64 r.kind) true).run Tryz.prog (w2.alloc o) = .ok (.tuple #[.agg #[.func (.func mK) #[] mC, .func (.func aK) #[] aC], .bool true]) (w2.alloc o)) ∧
      Hid (∀ g t cs, Blk W g t cs → Blk w2 g t cs) ∧ Hid (KindG σ m w2 W.heap.size r mK aK mC aC (mayB r) ∧ Below W1.heap.size W1 w2 ∧ Below W.heap.size W w2 ∧ (∀ i, aC = #[.pointer (some ⟨i, 0, none⟩)] → W.heap.size ≤ i)) := by
  refine (sorts_any W).mono ?_
  rintro e w2 ⟨m, b, e3, e4, e5, rfl, hS⟩
  obtain ⟨mK, aK, mC, aC, hK, hC⟩ := kind_g (σ := σ) hS r (mayB r) hs (mayB_is r hkn hs)
  have hb2 := hb.trans (hS.bel.mono hb.size)
  have hg2 := hg.below hb2 hg.lt
  refine ⟨m, mK, aK, mC, aC, rfl, rule_cells hg2, fun o => (hg2.alloc o).cell 3, hK.look w2 true (Kx.refl _ _), hK.look w2 false (Kx.refl _ _), fun o => hK.look (w2.alloc o) true (Kx.below ((Below.refl _ _).alloc (Nat.le_refl _) _)), Lib.hid (fun g t cs hb => hb.below hS.bel hb.lt), Lib.hid ⟨hK, hb2, hS.bel, fun i e => ?_⟩⟩
  rcases hC with hC | ⟨i', hi', hC⟩
  · rw [hC] at e; cases e
  · rw [hC] at e
    have : i = i' := by simpa using e.symm
    subst this
    exact hi'
/-- What sorts answers, for a rule of no known kind that lies in block g. -/
theorem sorts_unknown (W1 W : World) (g : Nat) (r : RuleV) (hkn : known r = false) (hg : Blk W1 g 46 r.cells) (hb : Below W1.heap.size W1 W) :
    Calls Tryz.prog 34 #[] W fun e w2 => ∃ m, e = .returned (.map (some m)) ∧
      (w2.cell? ⟨g, 0, none⟩ = some (.string r.path) ∧ w2.cell? ⟨g, 1, none⟩ = some (.string r.name) ∧ w2.cell? ⟨g, 2, none⟩ = some (.string r.value) ∧ w2.cell? ⟨g, 3, none⟩ = some (.int .i64 r.kind) ∧ w2.cell? ⟨g, 4, none⟩ = some (.int .i64 r.code) ∧ w2.cell? ⟨g, 5, none⟩ = some (.int .i64 r.n)) ∧
      (∀ o, (w2.alloc o).cell? ⟨g, 3, none⟩ = some (.int .i64 r.kind)) ∧
      (Instr.lookup 72 (.map (some m)) (.int .i64 r.kind) true).run Tryz.prog w2 = .ok (.tuple #[.agg #[.nilFunc, .nilFunc], .bool false]) w2 ∧
      (∀ o, (Instr.lookup 72 (.map (some m)) (.int .i64 r.kind) true).run Tryz.prog (w2.alloc o) = .ok (.tuple #[.agg #[.nilFunc, .nilFunc], .bool false]) (w2.alloc o)) ∧
      Hid (∀ g t cs, Blk W g t cs → Blk w2 g t cs) ∧ Hid (Below W1.heap.size W1 w2 ∧ Below W.heap.size W w2) := by
  refine (sorts_any W).mono ?_
  rintro e w2 ⟨m, b, e3, e4, e5, rfl, hS⟩
  have hb2 := hb.trans (hS.bel.mono hb.size)
  have hg2 := hg.below hb2 hg.lt
  have hz : ∀ W, (zeroValue 70).run Tryz.prog W = .ok (.agg #[.nilFunc, .nilFunc]) W := fun W => by
    obtain ⟨i, hi, hz, _⟩ := info_parts (show (Tryz.prog.info? 70).map (fun i => (i.zero, i.size, i.bytes)) = some (some (.agg #[.nilFunc, .nilFunc]), 2, 16) by kernel_rfl)
    simp [zeroValue, typeInfo, hi, hz]
  have hk : ¬ (1 ≤ r.kind ∧ r.kind ≤ 6) := of_decide_eq_false hkn
  have look : ∀ W, W.heap[m]? = some (sortsMap b e3 e4 e5) → (Instr.lookup 72 (.map (some m)) (.int .i64 r.kind) true).run Tryz.prog W = .ok (.tuple #[.agg #[.nilFunc, .nilFunc], .bool false]) W := fun W hW => by
    obtain ⟨es, c, hes⟩ : ∃ es c, sortsMap b e3 e4 e5 = .map es c := ⟨_, _, rfl⟩
    have := run_lookN (P := Tryz.prog) W Tryz.underlying72 Tryz.underlying3 m c es r.kind (.agg #[.nilFunc, .nilFunc]) true hz (hW.trans (congrArg some hes)) (find_no b e3 e4 e5 r.kind es c hes hk)
    exact this
  refine ⟨m, rfl, rule_cells hg2, fun o => (hg2.alloc o).cell 3, look w2 hS.map, fun o => look _ ((Below.heap_alloc w2 o m (map_lt hS.map)).trans hS.map), Lib.hid (fun g t cs hb => hb.below hS.bel hb.lt), Lib.hid ⟨hb2, hS.bel⟩⟩
/-- A rule's kind stands by, and what may be asked of it. -/
def MaysB (W1 wx : World) (g5 : Nat) (cells : Array Value) (mK aK : Nat) (mC aC : Array Value) (b : Bool) : Prop :=
  Blk wx g5 70 #[.func (.func mK) #[] mC, .func (.func aK) #[] aC] ∧ Below W1.heap.size W1 wx ∧ Enters Tryz.prog mK ∧ Calls Tryz.prog mK (#[.agg cells] ++ mC) wx fun e w' => e = .returned (.bool b) ∧ Below wx.heap.size wx w'
theorem maysB_a {m B0 mK aK : Nat} {W1 w2 : World} {r : RuleV} {mC aC : Array Value} {bb : Bool} (h : KindG σ m w2 B0 r mK aK mC aC bb) (hb : Below W1.heap.size W1 w2) (he : EnvC W1) : MaysB W1 (w2.alloc (.cells #[.func (.func mK) #[] mC, .func (.func aK) #[] aC] 70)) w2.heap.size r.cells mK aK mC aC bb := by
  have h1 : Below w2.heap.size w2 (w2.alloc (.cells #[.func (.func mK) #[] mC, .func (.func aK) #[] aC] 70)) := (Below.refl _ _).alloc (Nat.le_refl _) _
  exact ⟨Blk.new _ _ _, hb.alloc hb.size _, h.em, h.may _ ((he.below hb).below h1) (Kx.below h1)⟩
theorem maysB_b {m B0 mK aK : Nat} {W1 w2 : World} {r : RuleV} {mC aC : Array Value} {a b : Value} {bb : Bool} (h : KindG σ m w2 B0 r mK aK mC aC bb) (hB : W1.heap.size < B0) (hb : Below W1.heap.size W1 w2) (he : EnvC W1) (hg : Blk w2 W1.heap.size 70 #[a, b]) :
    MaysB W1 ((w2.setCell ⟨W1.heap.size, 0, none⟩ (.func (.func mK) #[] mC)).setCell ⟨W1.heap.size, 1, none⟩ (.func (.func aK) #[] aC)) W1.heap.size r.cells mK aK mC aC bb := by
  have h1 : Below W1.heap.size W1 ((w2.setCell ⟨W1.heap.size, 0, none⟩ (.func (.func mK) #[] mC)).setCell ⟨W1.heap.size, 1, none⟩ (.func (.func aK) #[] aC)) := (hb.setCell (Nat.le_refl _) _).setCell (Nat.le_refl _) _
  have h2 : w2.grownBy ((w2.setCell ⟨W1.heap.size, 0, none⟩ (.func (.func mK) #[] mC)).setCell ⟨W1.heap.size, 1, none⟩ (.func (.func aK) #[] aC)) (some W1.heap.size) := grown_setCell (grown_setCell (World.grownBy.refl w2 _) 0 _) 1 _
  exact ⟨(hg.put 0 _).put 1 _, h1, h.em, h.may _ (he.below h1) (Kx.grown h2 fun g e => by injection e with e; omega)⟩
/-- nil, or an error. -/
def VdPost (b : Bool) (w : World) (e : Ending) (w' : World) : Prop := Below w.heap.size w w' ∧ ((b = true ∧ e = .returned .nilIface) ∨ (b = false ∧ ∃ p, e = .returned (.iface 74 (.pointer (some p)))))
theorem ok_known {r : RuleV} (h : known r = true) : okR r = mayB r := by unfold okR; rw [h]; rfl
theorem ok_unknown {r : RuleV} (h : known r = false) : okR r = false := by unfold okR; rw [h]; rfl
theorem all_more {l : List RuleV} {k : Nat} {r : RuleV} (hr : l[k]? = some r) (h : (l.take k).all okR = true) (hp : okR r = true) : (l.take (k + 1)).all okR = true := by
  rw [take_at l k r hr, List.all_append, h]
  simp [hp]
theorem all_no {l : List RuleV} {k : Nat} {r : RuleV} (hr : l[k]? = some r) (hp : okR r = false) : l.all okR = false := by
  rw [Bool.eq_false_iff]
  intro h
  rw [List.all_eq_true.1 h r (List.mem_of_getElem? hr)] at hp
  cases hp
set_option maxHeartbeats 4000000 in
set_option maxRecDepth 100000 in
theorem valid_any (A : Option Addr) (n c : Nat) (l : List RuleV) (w : World) (hn : n ≤ 100) (he : EnvC w) (hl : Rs w A n l) (hs : ∀ r ∈ l, SzR r) :
    Calls Tryz.prog 10 #[.slice A n c] w (VdPost (l.all okR) w) := by
  have HL := Lib.hid hl
  have HE := Lib.hid he
  have HSz := Lib.hid hs
  obtain ⟨ob, hob⟩ : ∃ b, l.all okR = b := ⟨_, rfl⟩
  have HOb := Lib.hid hob
  rw [hob]
  clear hl he hs hob
  go_enter Tryz.func10, Tryz.ntmps10
  go_wp2
  go_loopw [9] (fun i wr => ∃ k : Nat, k ≤ n ∧ i = .int .i64 (k : Int) ∧ Hid (Below w.heap.size w wr ∧ (l.take k).all okR = true)) (fun i _ => n - (intOf i).toNat)
  case atStart => exact ⟨0, Nat.zero_le _, rfl, Lib.hid ⟨Below.refl _ _, by simp⟩⟩
  case round =>
    obtain ⟨k, hk, rfl, hb⟩ := hrel
    by_cases hlt : k < n
    · have hlen := HL.out.1
      obtain ⟨r, hr⟩ : ∃ r, l[k]? = some r := ⟨_, List.getElem?_eq_getElem (by omega)⟩
      obtain ⟨ad, rfl, h1, h2, h4, h5, h6, h7, h8⟩ := (HL.out.below hb.out.1).at_ hr
      have HSr := Lib.hid (HSz.out r (List.mem_of_getElem? hr))
      have HRr := Lib.hid hr
      obtain ⟨g1, g2⟩ := rule_room wr r
      have HB1 := Lib.hid (hb.out.1.trans (g1.mono hb.out.1.size))
      have HG2 := Lib.hid g2
      have HE1 := Lib.hid ((HE.out.below hb.out.1).below g1)
      obtain ⟨kb, hkb⟩ : ∃ b, known r = b := ⟨_, rfl⟩
      rcases kb with _ | _
      · have HS : Hid (∀ W, Below (wr.alloc (ruleB r)).heap.size (wr.alloc (ruleB r)) W → _) := Lib.hid fun W hW => sorts_unknown (wr.alloc (ruleB r)) W wr.heap.size r hkb g2 hW
        have HF := Lib.hid (HOb.out.symm.trans (all_no HRr.out (ok_unknown hkb)))
        obtain ⟨rp, rn, rv, rk, rc, ri⟩ := r
        simp only at h2 h4 h5 h6 h7 h8
        clear hlen hr h1 g1 g2 hkb
        go_wp2_with fail
        obtain ⟨q0, q1, q2, q3, q4, q5⟩ := rule_cells HG2.out
        have hsz : wr.heap.size < (wr.alloc (ruleB ⟨rp, rn, rv, rk, rc, ri⟩)).heap.size := by simp
        clear h2 h4 h5 h6 h7 h8
        generalize wr.alloc _ = W1 at HS HB1 HG2 HE1 q0 q1 q2 q3 q4 q5 hsz ⊢
        have HD : Hid (Below W1.heap.size W1 W1.drew) := Lib.hid (Below.refl _ _).drew
        have HNB : Hid (Blk (W1.alloc (.cells #[.nilFunc, .nilFunc] 70)) W1.heap.size 70 #[.nilFunc, .nilFunc]) := Lib.hid (Blk.new _ _ _)
        have S1 := Lib.hid (HS.out W1.drew HD.out)
        have S2 := Lib.hid (HS.out (W1.alloc (.cells #[.nilFunc, .nilFunc] 70)).drew (((Below.refl _ _).alloc (Nat.le_refl _) _).drew))
        clear HS
        go_cut [5, 6] (fun s5 s6 wx => ∃ (g5 : Nat), s5 = .pointer (some ⟨g5, 0, none⟩) ∧ s6 = .bool false ∧ Hid (Below W1.heap.size W1 wx))
        case first =>
          go_region_with (first
            | ((with_reducible refine S1.out.mono ?_); rintro e w2 ⟨m, rfl, ⟨d0, d1, d2, d3, d4, d5⟩, d6, lk1, lk3, HBB, HK⟩)
            | ((with_reducible refine S2.out.mono ?_); rintro e w2 ⟨m, rfl, ⟨d0, d1, d2, d3, d4, d5⟩, d6, lk1, lk3, HBB, HK⟩; obtain ⟨z0, z1, z2, z3⟩ := pair_cells (HBB.out _ _ _ HNB.out)))
          all_goals
            go_wp2_with fail
            go_meet
            first
            | (have _tok := z0
               exact ⟨_, rfl, rfl, Lib.hid ((HK.out.1.setCell (Nat.le_refl _) _).setCell (Nat.le_refl _) _)⟩)
            | exact ⟨_, rfl, rfl, Lib.hid (HK.out.1.alloc HK.out.1.size _)⟩
        case rest =>
          obtain ⟨g5, rfl, rfl, HM⟩ := hcut
          have HB2 := Lib.hid (HB1.out.trans (HM.out.mono HB1.out.size))
          obtain ⟨ev, hev⟩ := (HE.out.below HB2.out).value
          go_wp2
          go_ret
          refine ⟨HB2.out.alloc HB2.out.size _, .inr ⟨HF.out, _, rfl⟩⟩
      · have HS : Hid (∀ W, Below (wr.alloc (ruleB r)).heap.size (wr.alloc (ruleB r)) W → _) := Lib.hid fun W hW => sorts_known Unit (wr.alloc (ruleB r)) W wr.heap.size r hkb HSr.out g2 hW
        have HOr := Lib.hid (ok_known hkb)
        obtain ⟨mb, hmb⟩ : ∃ b, mayB r = b := ⟨_, rfl⟩
        rw [hmb] at HOr
        have HMb := Lib.hid hmb
        obtain ⟨rp, rn, rv, rk, rc, ri⟩ := r
        simp only at h2 h4 h5 h6 h7 h8
        clear hlen hr h1 g1 g2 hkb hmb
        go_wp2_with fail
        obtain ⟨q0, q1, q2, q3, q4, q5⟩ := rule_cells HG2.out
        have hsz : wr.heap.size < (wr.alloc (ruleB ⟨rp, rn, rv, rk, rc, ri⟩)).heap.size := by simp
        clear h2 h4 h5 h6 h7 h8
        generalize wr.alloc _ = W1 at HS HB1 HG2 HE1 q0 q1 q2 q3 q4 q5 hsz ⊢
        have HD : Hid (Below W1.heap.size W1 W1.drew) := Lib.hid (Below.refl _ _).drew
        have HNB : Hid (Blk (W1.alloc (.cells #[.nilFunc, .nilFunc] 70)) W1.heap.size 70 #[.nilFunc, .nilFunc]) := Lib.hid (Blk.new _ _ _)
        have S1 := Lib.hid (HS.out W1.drew HD.out)
        have S2 := Lib.hid (HS.out (W1.alloc (.cells #[.nilFunc, .nilFunc] 70)).drew (((Below.refl _ _).alloc (Nat.le_refl _) _).drew))
        clear HS
        go_cut [5, 6] (fun s5 s6 wx => ∃ (g5 mK aK : Nat) (mC aC : Array Value), s5 = .pointer (some ⟨g5, 0, none⟩) ∧ s6 = .bool true ∧ Hid (MaysB W1 wx g5 #[.string rp, .string rn, .string rv, .int .i64 rk, .int .i64 rc, .int .i64 ri] mK aK mC aC mb))
        case first =>
          go_region_with (first
            | ((with_reducible refine S1.out.mono ?_); rintro e w2 ⟨m, mK, aK, mC, aC, rfl, ⟨d0, d1, d2, d3, d4, d5⟩, d6, lk1, lk2, lk3, HBB, HK⟩)
            | ((with_reducible refine S2.out.mono ?_); rintro e w2 ⟨m, mK, aK, mC, aC, rfl, ⟨d0, d1, d2, d3, d4, d5⟩, d6, lk1, lk2, lk3, HBB, HK⟩; obtain ⟨z0, z1, z2, z3⟩ := pair_cells (HBB.out _ _ _ HNB.out)))
          all_goals
            go_wp2_with fail
            go_meet
            first
            | (have _tok := z0
               have hM := maysB_b HK.out.1 (by simp) HK.out.2.1 HE1.out (HBB.out _ _ _ HNB.out)
               rw [HMb.out] at hM
               simp only [RuleV.cells] at hM
               exact ⟨_, mK, aK, mC, aC, rfl, rfl, Lib.hid hM⟩)
            | (have hM := maysB_a HK.out.1 HK.out.2.1 HE1.out
               rw [HMb.out] at hM
               simp only [RuleV.cells] at hM
               exact ⟨_, mK, aK, mC, aC, rfl, rfl, Lib.hid hM⟩)
        case rest =>
          obtain ⟨g5, mK, aK, mC, aC, rfl, rfl, HM⟩ := hcut
          have q6 : wc.cell? ⟨g5, 0, none⟩ = some (.func (.func mK) #[] mC) := HM.out.1.cell 0
          have HR2 := Lib.hid (HG2.out.below HM.out.2.1 HG2.out.lt)
          have hm : ∀ args w, (callFunc mK args).run Tryz.prog w = .ok (.enter mK args) w := HM.out.2.2.1
          clear q0 q1 q2 q3 q4 q5
          obtain ⟨q0, q1, q2, q3, q4, q5⟩ := rule_cells HR2.out
          go_wp2_with fail
          refine HM.out.2.2.2.mono ?_
          rintro e w3 ⟨rfl, g1⟩
          have HB3 := Lib.hid (HB1.out.trans ((HM.out.2.1.trans (g1.mono HM.out.2.1.size)).mono HB1.out.size))
          clear g1 q0 q1 q2 q3 q4 q5 q6
          rcases mb with _ | _
          · have HF := Lib.hid (HOb.out.symm.trans (all_no HRr.out HOr.out))
            obtain ⟨ev, hev⟩ := (HE.out.below HB3.out).value
            go_wp2
            go_ret
            refine ⟨HB3.out.alloc HB3.out.size _, .inr ⟨HF.out, _, rfl⟩⟩
          · have HN := Lib.hid (all_more HRr.out hb.out.2 HOr.out)
            go_wp2_with fail
            go_roundw
            case rel => exact ⟨k + 1, hlt, by go_num, Lib.hid ⟨HB3.out, HN.out⟩⟩
            case measure => simp [intOf]; omega
    · obtain rfl : k = n := by omega
      have HN := Lib.hid hb.out.2
      rw [List.take_of_length_le (by rw [HL.out.1]; exact Nat.le_refl _)] at HN
      go_wp2
      go_ret
      exact ⟨hb.out.1, .inl ⟨HOb.out.symm.trans HN.out, rfl⟩⟩
end Go.Proofs.YthokfopeddaiiaaGreatDoor
