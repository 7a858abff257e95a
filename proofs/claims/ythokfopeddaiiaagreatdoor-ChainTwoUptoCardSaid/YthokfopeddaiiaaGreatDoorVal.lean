/-
  Contracts: chain.Valid, Matches: rules that may be.
-/
import Derived.Test.YthokfopeddaiiaaGreatDoorKnd
import Derived.LoopTactic
import Derived.Deep.RegionLaw
import Derived.Deep.DeepCutAuto
namespace Go.Proofs.YthokfopeddaiiaaGreatDoor
open Go.RowKit Go.Own Go.Own.Fn Go.Shelf
variable {σ : Type}
theorem run_lookC {P : Program} (w : World) {t k e : TypeId} (ht : P.underlying t = some (.map k e)) (hk : P.underlying k = some (.int .i64)) (r clock : Nat) (es : Array MapEntry) (key : Int) (j : Nat) (v : Value) (ok : Bool)
    (hb : w.heap[r]? = some (.map es clock)) (hf : Instr.findNow (.int .i64) (.int .i64 key) es.toList 0 = some (some (j, v))) :
    (Instr.lookup t (.map (some r)) (.int .i64 key) ok).run P w = .ok (if ok then .tuple #[v, .bool true] else v) w := by
  have hc : (Instr.checkKey es.isEmpty 10000 k (.int .i64 key)).run P w = .ok () w := MapKept.run_checkKey (k := .int .i64 key) hk (by simp [MapKept.IsKey]) _ 9999
  cases ok <;> simp [Instr.lookup, run_underlying ht, MapKept.run_getObj_map hb, hc, MapKept.run_findKey hk hf, Result.andThen]
/-- A rule that may be, of the kinds Add, Limit, Tag. -/
def RuleFit (r : RuleV) : Prop := (r.kind = 1 ∧ MetaOk r) ∨ (r.kind = 6 ∧ MetaOk r) ∨ (r.kind = 5 ∧ FitL r)
/-- What a rule is around a call. -/
def ruleA (r : RuleV) (place : Nat) (F : CallV → σ → AnsV × σ) (x : CallV) (s : σ) : AnsV × σ :=
  if r.kind = 1 then F (addC r x) s else if r.kind = 6 then (addA r (F x s).1, (F x s).2) else if r.kind = 5 then endF r place (limF r) F x s else F x s
/-- What the map of kinds holds for a rule. -/
structure KindFit (σ : Type) (m : Nat) (w' : World) (B0 : Nat) (r : RuleV) (mK aK : Nat) (mC aC : Array Value) : Prop where
  look : ∀ W ok, Kx (fun i => i < B0) w' W → (Instr.lookup 72 (.map (some m)) (.int .i64 r.kind) ok).run Tryz.prog W = .ok (if ok then .tuple #[.agg #[.func (.func mK) #[] mC, .func (.func aK) #[] aC], .bool true] else .agg #[.func (.func mK) #[] mC, .func (.func aK) #[] aC]) W
  em : Enters Tryz.prog mK
  ea : Enters Tryz.prog aK
  may : ∀ W, EnvC W → Kx (fun i => i < B0) w' W → Calls Tryz.prog mK (#[.agg r.cells] ++ mC) W fun e w' => e = .returned (.bool true) ∧ Below W.heap.size W w'
  arnd : ∀ (S : Stt σ) (k : Nat) (ex : Nat → Prop) (place : Nat) (W : World), KeepsSt S → k ≤ 800 → place < 100 → (∀ g, ex g → g < W.heap.size) → (∀ g, S.row = some g → ex g) → (∀ i, aC = #[.pointer (some ⟨i, 0, none⟩)] → ¬ ex i) → Kx (fun i => i < B0) w' W →
    Calls Tryz.prog aK (#[.agg r.cells, .int .i64 (place : Int)] ++ aC) W fun e w' => ∃ rv, e = .returned rv ∧ Arnd Tryz.prog S (callL k) (callL (k + 1)) ex rv (ruleA r place) w' ∧ Below W.heap.size W w'
theorem map_lt {w : World} {m : Nat} {o : Obj} (h : w.heap[m]? = some o) : m < w.heap.size := by
  rcases Nat.lt_or_ge m w.heap.size with h1 | h1
  · exact h1
  · rw [Array.getElem?_eq_none h1] at h; cases h
theorem kind_fit {w w' : World} {m b e3 e4 e5 : Nat} (h : Srt w w' m b e3 e4 e5) (r : RuleV) (hr : RuleFit r) : ∃ mK aK mC aC, KindFit σ m w' w.heap.size r mK aK mC aC ∧ (aC = #[] ∨ aC = #[.pointer (some ⟨e5, 0, none⟩)]) := by
  have hm := map_lt h.map
  have lbs := h.lb
  have hmap : ∀ W, Kx (fun i => i < w.heap.size) w' W → W.heap[m]? = some (sortsMap b e3 e4 e5) := fun W hb => (hb.block m hm (by omega)).trans h.map
  have empt : ∀ v : Value, (#[v] : Array Value) ++ #[] = #[v] := fun v => rfl
  rcases hr with ⟨hk, hr⟩ | ⟨hk, hr⟩ | ⟨hk, hr⟩
  · refine ⟨53, 54, #[], #[], ⟨?_, enters_of Tryz.func53 (by kernel_rfl) rfl, enters_of Tryz.func54 (by kernel_rfl) rfl, ?_, ?_⟩, .inl rfl⟩
    · intro W ok hb
      rw [hk]
      exact run_lookC W Tryz.underlying72 Tryz.underlying3 m 6 _ 1 0 _ ok (hmap W hb) rfl
    · intro W he hb
      exact may_meta r W he hr
    · intro S k ex place W hS hk1 hp hex hrow _ hb
      have e : (ruleA r place : (CallV → σ → AnsV × σ) → CallV → σ → AnsV × σ) = fun F x s => F (addC r x) s := by funext F x s; simp [ruleA, hk]
      rw [e]
      exact arnd_add S hS k ex r place W hk1 hex hrow
  · refine ⟨53, 74, #[], #[], ⟨?_, enters_of Tryz.func53 (by kernel_rfl) rfl, enters_of Tryz.func74 (by kernel_rfl) rfl, ?_, ?_⟩, .inl rfl⟩
    · intro W ok hb
      rw [hk]
      exact run_lookC W Tryz.underlying72 Tryz.underlying3 m 6 _ 6 5 _ ok (hmap W hb) rfl
    · intro W he hb
      exact may_meta r W he hr
    · intro S k ex place W hS hk1 hp hex hrow _ hb
      have e : (ruleA r place : (CallV → σ → AnsV × σ) → CallV → σ → AnsV × σ) = fun F x s => (addA r (F x s).1, (F x s).2) := by funext F x s; simp [ruleA, hk]
      rw [e]
      exact arnd_tag S hS k ex r place W hk1 hex hrow
  · refine ⟨72, 94, #[.pointer (some ⟨b, 0, none⟩)], #[.pointer (some ⟨e5, 0, none⟩)], ⟨?_, enters_of Tryz.func72 (by kernel_rfl) rfl, enters_of Tryz.func94 (by kernel_rfl) rfl, ?_, ?_⟩, .inr rfl⟩
    · intro W ok hb
      rw [hk]
      exact run_lookC W Tryz.underlying72 Tryz.underlying3 m 6 _ 5 4 _ ok (hmap W hb) rfl
    · intro W he hb
      exact may_limit r b W (Blk.kx h.hb hb (by omega)) hr
    · intro S k ex place W hS hk1 hp hex hrow hne hb
      have e : (ruleA r place : (CallV → σ → AnsV × σ) → CallV → σ → AnsV × σ) = endF r place (limF r) := by funext F x s; simp [ruleA, hk]
      rw [e]
      exact arnd_ends S hS k ex r place e5 73 (limF r) W hk1 hp hex hrow (Blk.kx h.h5 hb (by omega)) (hne e5 rfl) (enters_of Tryz.func73 (by kernel_rfl) rfl) (limit_q k r)
/-- A slice of rules. -/
def Rs (w : World) (A : Option Addr) (n : Nat) (l : List RuleV) : Prop :=
  l.length = n ∧ ∀ j (r : RuleV), l[j]? = some r → ∃ ad, A = some ad ∧ ad.block < w.heap.size ∧ w.cell? (ad.add (j * 6)) = some (.string r.path) ∧ ∀ i (v : Value), 1 ≤ i → r.cells[i]? = some v → w.cell? ⟨(ad.add (j * 6)).block, (ad.add (j * 6)).off + i, none⟩ = some v
theorem Rs.below {w w' : World} {A : Option Addr} {n : Nat} {l : List RuleV} (h : Rs w A n l) (hb : Below w.heap.size w w') : Rs w' A n l :=
  ⟨h.1, fun j r hr => by
    obtain ⟨ad, e, h1, h2, h3⟩ := h.2 j r hr
    refine ⟨ad, e, Nat.lt_of_lt_of_le h1 hb.size, (hb.cell (by rw [add_block]; exact h1)).trans h2, fun i v hi hv => (hb.cell (by show (ad.add (j * 6)).block < _; rw [add_block]; exact h1)).trans (h3 i v hi hv)⟩⟩
theorem Rs.at_ {w : World} {A : Option Addr} {n k : Nat} {l : List RuleV} {r : RuleV} (h : Rs w A n l) (hr : l[k]? = some r) : ∃ ad, A = some ad ∧ ad.block < w.heap.size ∧ w.cell? (ad.add (k * 6)) = some (.string r.path) ∧ w.cell? ⟨(ad.add (k * 6)).block, (ad.add (k * 6)).off + 1, none⟩ = some (.string r.name) ∧
    w.cell? ⟨(ad.add (k * 6)).block, (ad.add (k * 6)).off + 2, none⟩ = some (.string r.value) ∧ w.cell? ⟨(ad.add (k * 6)).block, (ad.add (k * 6)).off + 3, none⟩ = some (.int .i64 r.kind) ∧
    w.cell? ⟨(ad.add (k * 6)).block, (ad.add (k * 6)).off + 4, none⟩ = some (.int .i64 r.code) ∧ w.cell? ⟨(ad.add (k * 6)).block, (ad.add (k * 6)).off + 5, none⟩ = some (.int .i64 r.n) := by
  obtain ⟨ad, e, h1, h2, h3⟩ := h.2 k r hr
  exact ⟨ad, e, h1, h2, h3 1 _ (by decide) rfl, h3 2 _ (by decide) rfl, h3 3 _ (by decide) rfl, h3 4 _ (by decide) rfl, h3 5 _ (by decide) rfl⟩
theorem pair_cells {w : World} {g : Nat} {a b : Value} (h : Blk w g 70 #[a, b]) : w.cell? ⟨g, 0, none⟩ = some a ∧ w.cell? ⟨g, 1, none⟩ = some b ∧ w.frozen? ⟨g, 0, none⟩ = false ∧ w.frozen? ⟨g, 1, none⟩ = false := ⟨h.cell 0, h.cell 1, h.frozen 0, h.frozen 1⟩
/-- What sorts answers, for a rule in hand that lies in block g. -/
theorem sorts_for (σ : Type) (W1 W : World) (g : Nat) (r : RuleV) (hr : RuleFit r) (hg : Blk W1 g 46 r.cells) (hb : Below W1.heap.size W1 W) :
    Calls Tryz.prog 34 #[] W fun e w2 => ∃ m mK aK mC aC, e = .returned (.map (some m)) ∧
      (w2.cell? ⟨g, 0, none⟩ = some (.string r.path) ∧ w2.cell? ⟨g, 1, none⟩ = some (.string r.name) ∧ w2.cell? ⟨g, 2, none⟩ = some (.string r.value) ∧ w2.cell? ⟨g, 3, none⟩ = some (.int .i64 r.kind) ∧ w2.cell? ⟨g, 4, none⟩ = some (.int .i64 r.code) ∧ w2.cell? ⟨g, 5, none⟩ = some (.int .i64 r.n)) ∧
      (∀ o, (w2.alloc o).cell? ⟨g, 3, none⟩ = some (.int .i64 r.kind)) ∧
      (Instr.lookup 72 (.map (some m)) (.int .i64 r.kind) true).run Tryz.prog w2 = .ok (.tuple #[.agg #[.func (.func mK) #[] mC, .func (.func aK) #[] aC], .bool true]) w2 ∧
      (Instr.lookup 72 (.map (some m)) (.int .i64 r.kind) false).run Tryz.prog w2 = .ok (.agg #[.func (.func mK) #[] mC, .func (.func aK) #[] aC]) w2 ∧
      (∀ o, (Instr.lookup 72 (.map (some m)) (.int .i64 r.kind) true).run Tryz.prog (w2.alloc o) = .ok (.tuple #[.agg #[.func (.func mK) #[] mC, .func (.func aK) #[] aC], .bool true]) (w2.alloc o)) ∧
      Hid (∀ g t cs, Blk W g t cs → Blk w2 g t cs) ∧ Hid (KindFit σ m w2 W.heap.size r mK aK mC aC ∧ Below W1.heap.size W1 w2 ∧ Below W.heap.size W w2 ∧ (∀ i, aC = #[.pointer (some ⟨i, 0, none⟩)] → W.heap.size ≤ i)) := by
  refine (sorts_any W).mono ?_
  rintro e w2 ⟨m, b, e3, e4, e5, rfl, hS⟩
  obtain ⟨mK, aK, mC, aC, hK, hC⟩ := kind_fit (σ := σ) hS r hr
  have hb2 := hb.trans (hS.bel.mono hb.size)
  have hg2 := hg.below hb2 hg.lt
  refine ⟨m, mK, aK, mC, aC, rfl, rule_cells hg2, fun o => (hg2.alloc o).cell 3, hK.look w2 true (Kx.refl _ _), hK.look w2 false (Kx.refl _ _), fun o => hK.look (w2.alloc o) true (Kx.below ((Below.refl _ _).alloc (Nat.le_refl _) _)), Lib.hid (fun g t cs hb => hb.below hS.bel hb.lt), Lib.hid ⟨hK, hb2, hS.bel, fun i e => ?_⟩⟩
  rcases hC with hC | hC
  · rw [hC] at e; cases e
  · rw [hC] at e
    have : i = e5 := by simpa using e.symm
    subst this
    exact hS.lb.2.2.2.1
/-- A rule's kind stands by, and what may be asked of it. -/
def Mays (W1 wx : World) (g5 : Nat) (cells : Array Value) (mK aK : Nat) (mC aC : Array Value) : Prop :=
  Blk wx g5 70 #[.func (.func mK) #[] mC, .func (.func aK) #[] aC] ∧ Below W1.heap.size W1 wx ∧ Enters Tryz.prog mK ∧ Calls Tryz.prog mK (#[.agg cells] ++ mC) wx fun e w' => e = .returned (.bool true) ∧ Below wx.heap.size wx w'
theorem mays_a {m B0 mK aK : Nat} {W1 w2 : World} {r : RuleV} {mC aC : Array Value} (h : KindFit σ m w2 B0 r mK aK mC aC) (hb : Below W1.heap.size W1 w2) (he : EnvC W1) : Mays W1 (w2.alloc (.cells #[.func (.func mK) #[] mC, .func (.func aK) #[] aC] 70)) w2.heap.size r.cells mK aK mC aC := by
  have h1 : Below w2.heap.size w2 (w2.alloc (.cells #[.func (.func mK) #[] mC, .func (.func aK) #[] aC] 70)) := (Below.refl _ _).alloc (Nat.le_refl _) _
  exact ⟨Blk.new _ _ _, hb.alloc hb.size _, h.em, h.may _ ((he.below hb).below h1) (Kx.below h1)⟩
theorem mays_b {m B0 mK aK : Nat} {W1 w2 : World} {r : RuleV} {mC aC : Array Value} {a b : Value} (h : KindFit σ m w2 B0 r mK aK mC aC) (hB : W1.heap.size < B0) (hb : Below W1.heap.size W1 w2) (he : EnvC W1) (hg : Blk w2 W1.heap.size 70 #[a, b]) :
    Mays W1 ((w2.setCell ⟨W1.heap.size, 0, none⟩ (.func (.func mK) #[] mC)).setCell ⟨W1.heap.size, 1, none⟩ (.func (.func aK) #[] aC)) W1.heap.size r.cells mK aK mC aC := by
  have h1 : Below W1.heap.size W1 ((w2.setCell ⟨W1.heap.size, 0, none⟩ (.func (.func mK) #[] mC)).setCell ⟨W1.heap.size, 1, none⟩ (.func (.func aK) #[] aC)) := (hb.setCell (Nat.le_refl _) _).setCell (Nat.le_refl _) _
  have h2 : w2.grownBy ((w2.setCell ⟨W1.heap.size, 0, none⟩ (.func (.func mK) #[] mC)).setCell ⟨W1.heap.size, 1, none⟩ (.func (.func aK) #[] aC)) (some W1.heap.size) := grown_setCell (grown_setCell (World.grownBy.refl w2 _) 0 _) 1 _
  exact ⟨(hg.put 0 _).put 1 _, h1, h.em, h.may _ (he.below h1) (Kx.grown h2 fun g e => by injection e with e; omega)⟩
set_option maxHeartbeats 2000000 in
set_option maxRecDepth 100000 in
theorem valid_fit (A : Option Addr) (n c : Nat) (l : List RuleV) (w : World) (hn : n ≤ 100) (he : EnvC w) (hl : Rs w A n l) (hf : ∀ r ∈ l, RuleFit r) :
    Calls Tryz.prog 10 #[.slice A n c] w fun e w' => e = .returned .nilIface ∧ Below w.heap.size w w' := by
  have HL := Lib.hid hl
  have HE := Lib.hid he
  have HF := Lib.hid hf
  clear hl he hf
  go_enter Tryz.func10, Tryz.ntmps10
  go_wp2
  go_loopw [9] (fun i wr => ∃ k : Nat, k ≤ n ∧ i = .int .i64 (k : Int) ∧ Hid (Below w.heap.size w wr)) (fun i _ => n - (intOf i).toNat)
  case atStart => exact ⟨0, Nat.zero_le _, rfl, Lib.hid (Below.refl _ _)⟩
  case round =>
    obtain ⟨k, hk, rfl, hb⟩ := hrel
    by_cases hlt : k < n
    · have hlen := HL.out.1
      obtain ⟨r, hr⟩ : ∃ r, l[k]? = some r := ⟨_, List.getElem?_eq_getElem (by omega)⟩
      obtain ⟨ad, rfl, h1, h2, h4, h5, h6, h7, h8⟩ := (HL.out.below hb.out).at_ hr
      have HFit := Lib.hid (HF.out r (List.mem_of_getElem? hr))
      obtain ⟨g1, g2⟩ := rule_room wr r
      have HB1 := Lib.hid (hb.out.trans (g1.mono hb.out.size))
      have HS : Hid (∀ W, Below (wr.alloc (ruleB r)).heap.size (wr.alloc (ruleB r)) W → _) := Lib.hid fun W hW => sorts_for Unit (wr.alloc (ruleB r)) W wr.heap.size r HFit.out g2 hW
      have HG2 := Lib.hid g2
      have HE1 := Lib.hid ((HE.out.below hb.out).below g1)
      obtain ⟨rp, rn, rv, rk, rc, ri⟩ := r
      simp only at h2 h4 h5 h6 h7 h8
      clear hlen hr h1 g1 g2
      go_wp2_with fail
      obtain ⟨q0, q1, q2, q3, q4, q5⟩ := rule_cells HG2.out
      have hsz : wr.heap.size < (wr.alloc (ruleB ⟨rp, rn, rv, rk, rc, ri⟩)).heap.size := by simp
      clear h2 h4 h5 h6 h7 h8
      generalize wr.alloc _ = W1 at HS HB1 HG2 HE1 q0 q1 q2 q3 q4 q5 hsz ⊢
      have HD : Hid (Below W1.heap.size W1 W1.drew) := Lib.hid (Below.refl _ _).drew
      have HDa : Hid (∀ o, Below W1.heap.size W1 (W1.drew.alloc o)) := Lib.hid fun o => HD.out.alloc (Nat.le_refl _) o
      have HNB : Hid (Blk (W1.alloc (.cells #[.nilFunc, .nilFunc] 70)) W1.heap.size 70 #[.nilFunc, .nilFunc]) := Lib.hid (Blk.new _ _ _)
      have S1 := Lib.hid (HS.out W1.drew HD.out)
      have S2 := Lib.hid (HS.out (W1.alloc (.cells #[.nilFunc, .nilFunc] 70)).drew (((Below.refl _ _).alloc (Nat.le_refl _) _).drew))
      clear HS
      go_cut [5, 6] (fun s5 s6 wx => ∃ (g5 mK aK : Nat) (mC aC : Array Value), s5 = .pointer (some ⟨g5, 0, none⟩) ∧ s6 = .bool true ∧ Hid (Mays W1 wx g5 #[.string rp, .string rn, .string rv, .int .i64 rk, .int .i64 rc, .int .i64 ri] mK aK mC aC))
      case first =>
        go_region_with (first
          | ((with_reducible refine S1.out.mono ?_); rintro e w2 ⟨m, mK, aK, mC, aC, rfl, ⟨d0, d1, d2, d3, d4, d5⟩, d6, lk1, lk2, lk3, HBB, HK⟩)
          | ((with_reducible refine S2.out.mono ?_); rintro e w2 ⟨m, mK, aK, mC, aC, rfl, ⟨d0, d1, d2, d3, d4, d5⟩, d6, lk1, lk2, lk3, HBB, HK⟩; obtain ⟨z0, z1, z2, z3⟩ := pair_cells (HBB.out _ _ _ HNB.out)))
        all_goals
          go_wp2_with fail
          go_meet
          first
          | (have _tok := z0
             have hM := mays_b HK.out.1 (by simp) HK.out.2.1 HE1.out (HBB.out _ _ _ HNB.out)
             simp only [RuleV.cells] at hM
             exact ⟨_, mK, aK, mC, aC, rfl, rfl, Lib.hid hM⟩)
          | (have hM := mays_a HK.out.1 HK.out.2.1 HE1.out
             simp only [RuleV.cells] at hM
             exact ⟨_, mK, aK, mC, aC, rfl, rfl, Lib.hid hM⟩)
      case rest =>
        obtain ⟨g5, mK, aK, mC, aC, rfl, rfl, HM⟩ := hcut
        have q6 : wc.cell? ⟨g5, 0, none⟩ = some (.func (.func mK) #[] mC) := HM.out.1.cell 0
        have HR2 := Lib.hid (HG2.out.below HM.out.2.1 HG2.out.lt)
        have hm : ∀ args w, (callFunc mK args).run Tryz.prog w = .ok (.enter mK args) w := HM.out.2.2.1
        clear q0 q1 q2 q3 q4 q5
        obtain ⟨q0, q1, q2, q3, q4, q5⟩ := rule_cells HR2.out
        go_wp2_with fail
        refine HM.out.2.2.2.mono ?_
        rintro e w3 ⟨rfl, g1⟩
        have HB3 := Lib.hid (HB1.out.trans ((HM.out.2.1.trans (g1.mono HM.out.2.1.size)).mono HB1.out.size))
        clear g1 q0 q1 q2 q3 q4 q5 q6
        go_wp2_with fail
        go_roundw
        case rel => exact ⟨k + 1, hlt, by go_num, HB3⟩
        case measure => simp [intOf]; omega
    · obtain rfl : k = n := by omega
      go_wp2
      go_ret
      exact ⟨rfl, hb.out⟩
end Go.Proofs.YthokfopeddaiiaaGreatDoor
