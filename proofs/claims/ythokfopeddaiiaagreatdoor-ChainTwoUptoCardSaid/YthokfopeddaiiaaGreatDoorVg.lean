/-
  Contracts: what the map of kinds holds for any rule; chain.Valid of any rules.
-/
import Derived.Test.YthokfopeddaiiaaGreatDoorVal
import Derived.Test.YthokfopeddaiiaaGreatDoorGm
import Derived.Test.YthokfopeddaiiaaGreatDoorGe
namespace Go.Proofs.YthokfopeddaiiaaGreatDoor
open Go.RowKit Go.Own Go.Own.Fn Go.Own.Head Go.Shelf
variable {σ : Type}
/-- What a rule of any kind is around a call. -/
def ruleG (r : RuleV) (place : Nat) (F : CallV → σ → AnsV × σ) (x : CallV) (s : σ) : AnsV × σ :=
  if r.kind = 1 then F (addC r x) s else if r.kind = 2 then F (remC r x) s else if r.kind = 3 then endF r place (needF r) F x s else if r.kind = 4 then endF r place (denyF r) F x s
  else if r.kind = 5 then endF r place (limF r) F x s else if r.kind = 6 then (addA r (F x s).1, (F x s).2) else F x s
/-- What the map of kinds holds for a rule. -/
structure KindG (σ : Type) (m : Nat) (w' : World) (B0 : Nat) (r : RuleV) (mK aK : Nat) (mC aC : Array Value) (b : Bool) : Prop where
  look : ∀ W ok, Kx (fun i => i < B0) w' W → (Instr.lookup 72 (.map (some m)) (.int .i64 r.kind) ok).run Tryz.prog W = .ok (if ok then .tuple #[.agg #[.func (.func mK) #[] mC, .func (.func aK) #[] aC], .bool true] else .agg #[.func (.func mK) #[] mC, .func (.func aK) #[] aC]) W
  em : Enters Tryz.prog mK
  ea : Enters Tryz.prog aK
  may : ∀ W, EnvC W → Kx (fun i => i < B0) w' W → Calls Tryz.prog mK (#[.agg r.cells] ++ mC) W fun e w' => e = .returned (.bool b) ∧ Below W.heap.size W w'
  arnd : ∀ (S : Stt σ) (k : Nat) (ex : Nat → Prop) (place : Nat) (W : World), KeepsSt S → k ≤ 800 → place < 100 → (∀ g, ex g → g < W.heap.size) → (∀ g, S.row = some g → ex g) → (∀ i, aC = #[.pointer (some ⟨i, 0, none⟩)] → ¬ ex i) → Kx (fun i => i < B0) w' W →
    Calls Tryz.prog aK (#[.agg r.cells, .int .i64 (place : Int)] ++ aC) W fun e w' => ∃ rv, e = .returned rv ∧ Arnd Tryz.prog S (callL k) (callL (k + 1)) ex rv (ruleG r place) w' ∧ Below W.heap.size W w'
theorem kind_g {w w' : World} {m b e3 e4 e5 : Nat} (h : Srt w w' m b e3 e4 e5) (r : RuleV) (bb : Bool) (hs : SzR r) (hr : MayIs r bb) : ∃ mK aK mC aC, KindG σ m w' w.heap.size r mK aK mC aC bb ∧ (aC = #[] ∨ ∃ i, w.heap.size ≤ i ∧ aC = #[.pointer (some ⟨i, 0, none⟩)]) := by
  have hm := map_lt h.map
  have lbs := h.lb
  have hmap : ∀ W, Kx (fun i => i < w.heap.size) w' W → W.heap[m]? = some (sortsMap b e3 e4 e5) := fun W hb => (hb.block m hm (by omega)).trans h.map
  rcases hr with ⟨hk | hk, hr⟩ | ⟨hk, rfl⟩ | ⟨hk | hk, rfl⟩ | ⟨hk, rfl⟩
  · refine ⟨53, 54, #[], #[], ⟨?_, enters_of Tryz.func53 (by kernel_rfl) rfl, enters_of Tryz.func54 (by kernel_rfl) rfl, ?_, ?_⟩, .inl rfl⟩
    · intro W ok hb
      rw [hk]
      exact run_lookC W Tryz.underlying72 Tryz.underlying3 m 6 _ 1 0 _ ok (hmap W hb) rfl
    · intro W he hb
      exact may_meta_b r _ W he hr
    · intro S k ex place W hS hk1 hp hex hrow hne hb
      have e : (ruleG r place : (CallV → σ → AnsV × σ) → CallV → σ → AnsV × σ) = fun F x s => F (addC r x) s := by funext F x s; simp [ruleG, hk]
      rw [e]
      exact arnd_add S hS k ex r place W hk1 hex hrow
  · refine ⟨53, 74, #[], #[], ⟨?_, enters_of Tryz.func53 (by kernel_rfl) rfl, enters_of Tryz.func74 (by kernel_rfl) rfl, ?_, ?_⟩, .inl rfl⟩
    · intro W ok hb
      rw [hk]
      exact run_lookC W Tryz.underlying72 Tryz.underlying3 m 6 _ 6 5 _ ok (hmap W hb) rfl
    · intro W he hb
      exact may_meta_b r _ W he hr
    · intro S k ex place W hS hk1 hp hex hrow hne hb
      have e : (ruleG r place : (CallV → σ → AnsV × σ) → CallV → σ → AnsV × σ) = fun F x s => (addA r (F x s).1, (F x s).2) := by funext F x s; simp [ruleG, hk]
      rw [e]
      exact arnd_tag S hS k ex r place W hk1 hex hrow
  · refine ⟨59, 60, #[], #[], ⟨?_, enters_of Tryz.func59 (by kernel_rfl) rfl, enters_of Tryz.func60 (by kernel_rfl) rfl, ?_, ?_⟩, .inl rfl⟩
    · intro W ok hb
      rw [hk]
      exact run_lookC W Tryz.underlying72 Tryz.underlying3 m 6 _ 2 1 _ ok (hmap W hb) rfl
    · intro W he hb
      exact may_name_b r W he hs.2.1
    · intro S k ex place W hS hk1 hp hex hrow hne hb
      have e : (ruleG r place : (CallV → σ → AnsV × σ) → CallV → σ → AnsV × σ) = fun F x s => F (remC r x) s := by funext F x s; simp [ruleG, hk]
      rw [e]
      exact arnd_rem S hS k ex r place W hk1 hex hrow
  · refine ⟨64, 94, #[.pointer (some ⟨b, 0, none⟩)], #[.pointer (some ⟨e3, 0, none⟩)], ⟨?_, enters_of Tryz.func64 (by kernel_rfl) rfl, enters_of Tryz.func94 (by kernel_rfl) rfl, ?_, ?_⟩, .inr ⟨e3, lbs.2.1, rfl⟩⟩
    · intro W ok hb
      rw [hk]
      exact run_lookC W Tryz.underlying72 Tryz.underlying3 m 6 _ 3 2 _ ok (hmap W hb) rfl
    · intro W he hb
      exact may_need_b6 r b W he hs.2.1 (Blk.kx h.hb hb (by omega))
    · intro S k ex place W hS hk1 hp hex hrow hne hb
      have e : (ruleG r place : (CallV → σ → AnsV × σ) → CallV → σ → AnsV × σ) = endF r place (needF r) := by funext F x s; simp [ruleG, hk]
      rw [e]
      exact arnd_ends S hS k ex r place e3 66 (needF r) W hk1 hp hex hrow (Blk.kx h.h3 hb (by omega)) (hne e3 rfl) (enters_of Tryz.func66 (by kernel_rfl) rfl) (need_q k r (by omega))
  · refine ⟨68, 94, #[.pointer (some ⟨b, 0, none⟩)], #[.pointer (some ⟨e4, 0, none⟩)], ⟨?_, enters_of Tryz.func68 (by kernel_rfl) rfl, enters_of Tryz.func94 (by kernel_rfl) rfl, ?_, ?_⟩, .inr ⟨e4, lbs.2.2.1, rfl⟩⟩
    · intro W ok hb
      rw [hk]
      exact run_lookC W Tryz.underlying72 Tryz.underlying3 m 6 _ 4 3 _ ok (hmap W hb) rfl
    · intro W he hb
      exact may_need_b8 r b W he hs.2.1 (Blk.kx h.hb hb (by omega))
    · intro S k ex place W hS hk1 hp hex hrow hne hb
      have e : (ruleG r place : (CallV → σ → AnsV × σ) → CallV → σ → AnsV × σ) = endF r place (denyF r) := by funext F x s; simp [ruleG, hk]
      rw [e]
      exact arnd_ends S hS k ex r place e4 69 (denyF r) W hk1 hp hex hrow (Blk.kx h.h4 hb (by omega)) (hne e4 rfl) (enters_of Tryz.func69 (by kernel_rfl) rfl) (deny_q k r (by omega))
  · refine ⟨72, 94, #[.pointer (some ⟨b, 0, none⟩)], #[.pointer (some ⟨e5, 0, none⟩)], ⟨?_, enters_of Tryz.func72 (by kernel_rfl) rfl, enters_of Tryz.func94 (by kernel_rfl) rfl, ?_, ?_⟩, .inr ⟨e5, lbs.2.2.2.1, rfl⟩⟩
    · intro W ok hb
      rw [hk]
      exact run_lookC W Tryz.underlying72 Tryz.underlying3 m 6 _ 5 4 _ ok (hmap W hb) rfl
    · intro W he hb
      exact may_limit_b r b W (Blk.kx h.hb hb (by omega))
    · intro S k ex place W hS hk1 hp hex hrow hne hb
      have e : (ruleG r place : (CallV → σ → AnsV × σ) → CallV → σ → AnsV × σ) = endF r place (limF r) := by funext F x s; simp [ruleG, hk]
      rw [e]
      exact arnd_ends S hS k ex r place e5 73 (limF r) W hk1 hp hex hrow (Blk.kx h.h5 hb (by omega)) (hne e5 rfl) (enters_of Tryz.func73 (by kernel_rfl) rfl) (limit_q k r)
theorem run_lookN {P : Program} (w : World) {t k e : TypeId} (ht : P.underlying t = some (.map k e)) (hk : P.underlying k = some (.int .i64)) (r clock : Nat) (es : Array MapEntry) (key : Int) (z : Value) (ok : Bool) (hz : ∀ W, (zeroValue e).run P W = .ok z W)
    (hb : w.heap[r]? = some (.map es clock)) (hf : Instr.findNow (.int .i64) (.int .i64 key) es.toList 0 = some none) :
    (Instr.lookup t (.map (some r)) (.int .i64 key) ok).run P w = .ok (if ok then .tuple #[z, .bool false] else z) w := by
  have hc : (Instr.checkKey es.isEmpty 10000 k (.int .i64 key)).run P w = .ok () w := MapKept.run_checkKey (k := .int .i64 key) hk (by simp [MapKept.IsKey]) _ 9999
  cases ok <;> simp [Instr.lookup, run_underlying ht, MapKept.run_getObj_map hb, hc, MapKept.run_findKey hk hf, Result.andThen, hz]
theorem find_no (b e3 e4 e5 : Nat) (k : Int) (es : Array MapEntry) (c : Nat) (h : sortsMap b e3 e4 e5 = .map es c) (hk : ¬ (1 ≤ k ∧ k ≤ 6)) : Instr.findNow (.int .i64) (.int .i64 k) es.toList 0 = some none := by
  unfold sortsMap at h
  injection h with h1 h2
  subst h1
  have b : ∀ n : Int, 1 ≤ n → n ≤ 6 → (k == n) = false := fun n h1 h2 => by rw [beq_eq_false_iff_ne]; omega
  simp [Instr.findNow, ent, Instr.sameNow, b 1 (by decide) (by decide), b 2 (by decide) (by decide), b 3 (by decide) (by decide), b 4 (by decide) (by decide), b 5 (by decide) (by decide), b 6 (by decide) (by decide)]
end Go.Proofs.YthokfopeddaiiaaGreatDoor
