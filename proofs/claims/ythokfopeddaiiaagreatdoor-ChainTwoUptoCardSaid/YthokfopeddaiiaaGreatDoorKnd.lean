/-
  Contracts: what rules of the kinds Add, Limit, Tag may be, and what they are around a call.
-/
import Derived.Test.YthokfopeddaiiaaGreatDoorAdd
import Derived.Test.YthokfopeddaiiaaGreatDoorNm
import Derived.Test.YthokfopeddaiiaaGreatDoorSrt
namespace Go.Proofs.YthokfopeddaiiaaGreatDoor
open Go.RowKit Go.Own Go.Own.Fn Go.Own.Head Go.Shelf
variable {σ : Type}
/-- Metadata: what grpc.Meta answers. -/
def MetaOk (r : RuleV) : Prop := ∀ W, EnvC W → Calls Tryz.prog 11 #[.string r.name, .string r.value] W fun e w' => e = .returned (.bool true) ∧ Below W.heap.size W w'
set_option maxRecDepth 100000 in
theorem named_t (w : World) (he : EnvC w) : Calls Tryz.prog 35 #[.string ⟨#[116]⟩] w fun e w' => e = .returned (.bool true) ∧ w = w' := by
  have hn := name_any ⟨#[116]⟩ w he (show 1 ≤ 1000000000 by decide)
  have hv : nameB (⟨#[116]⟩ : ByteArray).data.toList = true := by decide +kernel
  have hp := Tryz.strings_HasPrefix ⟨#[116]⟩ ⟨#[103, 114, 112, 99, 45]⟩ w
  rw [show Lib.hasPrefix (⟨#[116]⟩ : ByteArray).data.toList (⟨#[103, 114, 112, 99, 45]⟩ : ByteArray).data.toList = false by decide +kernel] at hp
  unfold NamePost at hn
  rw [hv] at hn
  have HN := Lib.hid hn
  have HP := Lib.hid hp
  clear hn hv hp he
  go_enter Tryz.func35, Tryz.ntmps35
  go_wp2_with fail
  refine HN.out.mono ?_
  rintro e w1 ⟨rfl, rfl⟩
  go_wp2_with fail
  refine HP.out.mono ?_
  rintro e w1 ⟨rfl, rfl⟩
  go_wp2
  go_ret
  exact ⟨rfl, rfl⟩
theorem binary_t (w : World) : Calls Tryz.prog 36 #[.string ⟨#[116]⟩] w fun e w' => e = .returned (.bool false) ∧ w = w' := by
  have hs := Tryz.strings_HasSuffix ⟨#[116]⟩ ⟨#[45, 98, 105, 110]⟩ w (show 1 ≤ 9223372036854775807 by decide)
  rw [show Lib.hasSuffix (⟨#[116]⟩ : ByteArray).data.toList (⟨#[45, 98, 105, 110]⟩ : ByteArray).data.toList = false by decide +kernel] at hs
  have HS := Lib.hid hs
  clear hs
  go_enter Tryz.func36, Tryz.ntmps36
  go_wp2_with fail
  refine HS.out.mono ?_
  rintro e w1 ⟨rfl, rfl⟩
  go_wp2
  go_ret
  exact ⟨rfl, rfl⟩
set_option maxRecDepth 100000 in
theorem named_h (w : World) (he : EnvC w) : Calls Tryz.prog 35 #[.string ⟨#[104]⟩] w fun e w' => e = .returned (.bool true) ∧ w = w' := by
  have hn := name_any ⟨#[104]⟩ w he (show 1 ≤ 1000000000 by decide)
  have hv : nameB (⟨#[104]⟩ : ByteArray).data.toList = true := by decide +kernel
  have hp := Tryz.strings_HasPrefix ⟨#[104]⟩ ⟨#[103, 114, 112, 99, 45]⟩ w
  rw [show Lib.hasPrefix (⟨#[104]⟩ : ByteArray).data.toList (⟨#[103, 114, 112, 99, 45]⟩ : ByteArray).data.toList = false by decide +kernel] at hp
  unfold NamePost at hn
  rw [hv] at hn
  have HN := Lib.hid hn
  have HP := Lib.hid hp
  clear hn hv hp he
  go_enter Tryz.func35, Tryz.ntmps35
  go_wp2_with fail
  refine HN.out.mono ?_
  rintro e w1 ⟨rfl, rfl⟩
  go_wp2_with fail
  refine HP.out.mono ?_
  rintro e w1 ⟨rfl, rfl⟩
  go_wp2
  go_ret
  exact ⟨rfl, rfl⟩
theorem binary_h (w : World) : Calls Tryz.prog 36 #[.string ⟨#[104]⟩] w fun e w' => e = .returned (.bool false) ∧ w = w' := by
  have hs := Tryz.strings_HasSuffix ⟨#[104]⟩ ⟨#[45, 98, 105, 110]⟩ w (show 1 ≤ 9223372036854775807 by decide)
  rw [show Lib.hasSuffix (⟨#[104]⟩ : ByteArray).data.toList (⟨#[45, 98, 105, 110]⟩ : ByteArray).data.toList = false by decide +kernel] at hs
  have HS := Lib.hid hs
  clear hs
  go_enter Tryz.func36, Tryz.ntmps36
  go_wp2_with fail
  refine HS.out.mono ?_
  rintro e w1 ⟨rfl, rfl⟩
  go_wp2
  go_ret
  exact ⟨rfl, rfl⟩
set_option maxRecDepth 100000 in
theorem meta_one (nm : ByteArray) (hnm : nm = ⟨#[116]⟩ ∨ nm = ⟨#[104]⟩) (c : UInt8) (h1 : 33 ≤ c.toNat) (h2 : c.toNat ≤ 126) (w : World) (he : EnvC w) :
    Calls Tryz.prog 11 #[.string nm, .string ⟨#[c]⟩] w fun e w' => e = .returned (.bool true) ∧ Below w.heap.size w w' := by
  have HV := Lib.hid fun W => value_one c W h1 h2
  have HS : Hid (∀ W, Calls Tryz.prog 37 #[.string ⟨#[c]⟩] W fun e w' => e = .returned (.bool true) ∧ W = w') := Lib.hid fun W => visible_yes ⟨#[c]⟩ W (show 1 ≤ 1000000000 by decide) (fun k hk => by
    obtain rfl : k = 0 := by have : k < 1 := hk; omega
    exact ⟨Nat.le_of_succ_le h1, h2⟩)
  have HN : Hid (Calls Tryz.prog 35 #[.string nm] w fun e w' => e = .returned (.bool true) ∧ w = w') := Lib.hid (hnm.elim (fun h => h ▸ named_t w he) (fun h => h ▸ named_h w he))
  have HB : Hid (Calls Tryz.prog 36 #[.string nm] w fun e w' => e = .returned (.bool false) ∧ w = w') := Lib.hid (hnm.elim (fun h => h ▸ binary_t w) (fun h => h ▸ binary_h w))
  obtain ⟨s, hs⟩ : ∃ s : ByteArray, s = ⟨#[c]⟩ := ⟨_, rfl⟩
  rw [← hs] at HV HS ⊢
  clear hs h1 h2 hnm he
  go_enter Tryz.func11, Tryz.ntmps11
  go_wp2_with fail
  refine HN.out.mono ?_
  rintro e w1 ⟨rfl, rfl⟩
  go_wp2_with fail
  refine HB.out.mono ?_
  rintro e w1 ⟨rfl, rfl⟩
  go_wp2_with fail
  refine (HS.out _).mono ?_
  rintro e w1 ⟨rfl, rfl⟩
  go_wp2_with fail
  refine (HV.out _).mono ?_
  rintro e w1 ⟨rfl, hb⟩
  have HW := Lib.hid hb
  clear hb
  go_wp2
  go_ret
  exact ⟨rfl, HW.out⟩
def FitL (r : RuleV) : Prop := 1 ≤ r.code ∧ r.code ≤ 16 ∧ 0 ≤ r.n
/-- A block that a rule was laid in. -/
abbrev ruleB (r : RuleV) : Obj := .cells #[.string r.path, .string r.name, .string r.value, .int .i64 r.kind, .int .i64 r.code, .int .i64 r.n] 46
theorem rule_room (w : World) (r : RuleV) : Below w.heap.size w (w.alloc (ruleB r)) ∧ Blk (w.alloc (ruleB r)) w.heap.size 46 r.cells := ⟨(Below.refl _ _).alloc (Nat.le_refl _) _, Blk.new _ _ _⟩
theorem may_meta (r : RuleV) (w : World) (he : EnvC w) (hm : MetaOk r) : Calls Tryz.prog 53 #[.agg r.cells] w fun e w' => e = .returned (.bool true) ∧ Below w.heap.size w w' := by
  obtain ⟨hb, _⟩ := rule_room w r
  have HM := Lib.hid (hm _ (he.below hb))
  have HB := Lib.hid hb
  obtain ⟨a, b, c, d, e, f⟩ := r
  simp only [RuleV.cells]
  clear hb hm he
  go_enter Tryz.func53, Tryz.ntmps53
  go_wp2_with fail
  refine HM.out.mono ?_
  rintro e w1 ⟨rfl, h1⟩
  have HB1 := Lib.hid (HB.out.trans (h1.mono HB.out.size))
  clear h1
  go_wp2
  go_ret
  exact ⟨rfl, HB1.out⟩
theorem code_yes (r : RuleV) (w : World) (h1 : 1 ≤ r.code) (h2 : r.code ≤ 16) : Calls Tryz.prog 52 #[.agg r.cells] w fun e w' => e = .returned (.bool true) ∧ Below w.heap.size w w' := by
  obtain ⟨a, b, c, d, e, f⟩ := r
  simp only [RuleV.cells]
  simp only at h1 h2
  go_enter Tryz.func52, Tryz.ntmps52
  go_wp2
  go_ret
  exact ⟨rfl, (Below.refl _ _).alloc (Nat.le_refl _) _⟩
theorem may_limit (r : RuleV) (b : Nat) (w : World) (hb : Blk w b 67 #[fnv 52]) (h : FitL r) : Calls Tryz.prog 72 #[.agg r.cells, .pointer (some ⟨b, 0, none⟩)] w fun e w' => e = .returned (.bool true) ∧ Below w.heap.size w w' := by
  obtain ⟨h1, h2, h3⟩ := h
  have HC := Lib.hid (code_yes r (w.alloc (ruleB r)) h1 h2)
  obtain ⟨hb0, hr0⟩ := rule_room w r
  have HB := Lib.hid hb0
  have HR := Lib.hid hr0
  have l1 := hb.lt
  have c1 : w.cell? ⟨b, 0, none⟩ = some (.func (.func 52) #[] #[]) := hb.cell 0
  obtain ⟨p, q, c, d, e, f⟩ := r
  simp only [RuleV.cells] at HC HR ⊢
  simp only at h1 h2 h3
  clear hb0 hr0 hb h1 h2
  go_enter Tryz.func72, Tryz.ntmps72
  go_wp2_with fail
  refine HC.out.mono ?_
  rintro e w1 ⟨rfl, g1⟩
  have HB1 := Lib.hid (HB.out.trans (g1.mono HB.out.size))
  have c5 : w1.cell? ⟨w.heap.size, 5, none⟩ = some (.int .i64 f) := (HR.out.below g1 HR.out.lt).cell 5
  clear g1
  go_wp2
  go_ret
  exact ⟨rfl, HB1.out⟩
/-- The question of the kind Limit. -/
def limF (r : RuleV) (x : CallV) : Bool := decide (r.n < (x.body.length : Int))
theorem limit_q (k : Nat) (r : RuleV) : IsQ 73 k r (limF r) := by
  intro w xv x hx
  have HX := Lib.hid hx
  obtain ⟨hv, bv, rfl, h1, h2, h3, h4⟩ := hx
  obtain ⟨A1, c1, rfl, _⟩ := h1.form
  obtain ⟨A2, c2, rfl⟩ := owSlc h2
  obtain ⟨p, q, c, d, e, f⟩ := r
  simp only [RuleV.cells, limF]
  obtain ⟨n2, hn2⟩ : ∃ n, x.body.length = n := ⟨_, rfl⟩
  rw [hn2] at h4 ⊢
  clear h1 h2 h3 HX hn2
  go_enter Tryz.func73, Tryz.ntmps73
  go_wp2
  go_ret
  exact ⟨rfl, ((Below.refl _ _).alloc (Nat.le_refl _) _).alloc (by simp) _⟩
theorem before_c (S : Stt σ) (hS : KeepsSt S) (k : Nat) (ex : Nat → Prop) (gv : Value) (f : CallV → CallV) (w : World) (hex : ∀ g, ex g → g < w.heap.size) (hrl : ∀ g, S.row = some g → g < w.heap.size) (hg : PurC Tryz.prog (RXk k) (RXk (k + 1)) ex gv f w) :
    Calls Tryz.prog 55 #[gv] w fun e w' => ∃ r, e = .returned r ∧ Arnd Tryz.prog S (callL k) (callL (k + 1)) ex r (fun F x s => F (f x) s) w' ∧ Below w.heap.size w w' := by
  have HG := Lib.hid hg
  have HS := Lib.hid hS
  obtain ⟨K, cap, rfl, _⟩ := hg
  go_enter Tryz.func55, Tryz.ntmps55
  go_wp2
  go_ret
  have hb : Below w.heap.size w (w.alloc (.cells #[.func (.func K) #[] cap] 94)) := (Below.refl _ _).alloc (Nat.le_refl _) _
  exact ⟨_, rfl, before1_c S HS.out k ex w.heap.size _ f _ (fun g h => Nat.lt_of_lt_of_le (hrl g h) hb.size) (Blk.new _ _ _) (fun h => Nat.lt_irrefl _ (hex _ h)) (HG.out.kx (Kx.below hb)), hb⟩
theorem after_c (S : Stt σ) (hS : KeepsSt S) (k : Nat) (ex : Nat → Prop) (gv : Value) (f : AnsV → AnsV) (w : World) (hex : ∀ g, ex g → g < w.heap.size) (hrow : ∀ g, S.row = some g → ex g) (hg : PurC Tryz.prog (RYk (k + 1)) (RYk k) ex gv f w) :
    Calls Tryz.prog 75 #[gv] w fun e w' => ∃ r, e = .returned r ∧ Arnd Tryz.prog S (callL k) (callL (k + 1)) ex r (fun F x s => (f (F x s).1, (F x s).2)) w' ∧ Below w.heap.size w w' := by
  have HG := Lib.hid hg
  have HS := Lib.hid hS
  obtain ⟨K, cap, rfl, _⟩ := hg
  go_enter Tryz.func75, Tryz.ntmps75
  go_wp2
  go_ret
  have hb : Below w.heap.size w (w.alloc (.cells #[.func (.func K) #[] cap] 104)) := (Below.refl _ _).alloc (Nat.le_refl _) _
  exact ⟨_, rfl, after1_c S HS.out k ex w.heap.size _ f _ hrow (fun g h => Nat.lt_of_lt_of_le (hex g (hrow g h)) hb.size) (Blk.new _ _ _) (fun h => Nat.lt_irrefl _ (hex _ h)) (HG.out.kx (Kx.below hb)), hb⟩
theorem arnd_add (S : Stt σ) (hS : KeepsSt S) (k : Nat) (ex : Nat → Prop) (r : RuleV) (place : Nat) (w : World) (hk : k ≤ 800) (hex : ∀ g, ex g → g < w.heap.size) (hrow : ∀ g, S.row = some g → ex g) :
    Calls Tryz.prog 54 #[.agg r.cells, .int .i64 (place : Int)] w fun e w' => ∃ rv, e = .returned rv ∧ Arnd Tryz.prog S (callL k) (callL (k + 1)) ex rv (fun F x s => F (addC r x) s) w' ∧ Below w.heap.size w w' := by
  obtain ⟨hb0, hr0⟩ := rule_room w r
  have hx : ¬ ex w.heap.size := fun h => Nat.lt_irrefl _ (hex _ h)
  have HC := Lib.hid (before_c S hS k ex _ _ _ (fun g h => Nat.lt_of_lt_of_le (hex g h) hb0.size) (fun g h => Nat.lt_of_lt_of_le (hex g (hrow g h)) hb0.size) (pur56 k ex w.heap.size r _ hr0 hx hk))
  have HB := Lib.hid hb0
  have hcs : r.cells = #[.string r.path, .string r.name, .string r.value, .int .i64 r.kind, .int .i64 r.code, .int .i64 r.n] := rfl
  rw [hcs]
  clear hb0 hr0 hx hcs
  go_enter Tryz.func54, Tryz.ntmps54
  go_wp2_with fail
  refine HC.out.mono ?_
  rintro e w1 ⟨rv, rfl, g1, g2⟩
  have HR := Lib.hid (And.intro g1 (HB.out.trans (g2.mono HB.out.size)))
  obtain ⟨K, f, c, rfl, _⟩ := g1
  clear g2
  go_wp2
  go_ret
  exact ⟨_, rfl, HR.out.1, HR.out.2⟩
theorem arnd_tag (S : Stt σ) (hS : KeepsSt S) (k : Nat) (ex : Nat → Prop) (r : RuleV) (place : Nat) (w : World) (hk : k ≤ 800) (hex : ∀ g, ex g → g < w.heap.size) (hrow : ∀ g, S.row = some g → ex g) :
    Calls Tryz.prog 74 #[.agg r.cells, .int .i64 (place : Int)] w fun e w' => ∃ rv, e = .returned rv ∧ Arnd Tryz.prog S (callL k) (callL (k + 1)) ex rv (fun F x s => (addA r (F x s).1, (F x s).2)) w' ∧ Below w.heap.size w w' := by
  obtain ⟨hb0, hr0⟩ := rule_room w r
  have hx : ¬ ex w.heap.size := fun h => Nat.lt_irrefl _ (hex _ h)
  have HC := Lib.hid (after_c S hS k ex _ _ _ (fun g h => Nat.lt_of_lt_of_le (hex g h) hb0.size) hrow (pur76 k ex w.heap.size r _ hr0 hx hk))
  have HB := Lib.hid hb0
  have hcs : r.cells = #[.string r.path, .string r.name, .string r.value, .int .i64 r.kind, .int .i64 r.code, .int .i64 r.n] := rfl
  rw [hcs]
  clear hb0 hr0 hx hcs
  go_enter Tryz.func74, Tryz.ntmps74
  go_wp2_with fail
  refine HC.out.mono ?_
  rintro e w1 ⟨rv, rfl, g1, g2⟩
  have HR := Lib.hid (And.intro g1 (HB.out.trans (g2.mono HB.out.size)))
  obtain ⟨K, f, c, rfl, _⟩ := g1
  clear g2
  go_wp2
  go_ret
  exact ⟨_, rfl, HR.out.1, HR.out.2⟩
theorem arnd_ends (S : Stt σ) (hS : KeepsSt S) (k : Nat) (ex : Nat → Prop) (r : RuleV) (place e0 KK : Nat) (f : CallV → Bool) (w : World) (hk : k ≤ 800) (hp : place < 100) (hex : ∀ g, ex g → g < w.heap.size) (hrow : ∀ g, S.row = some g → ex g)
    (hb : Blk w e0 99 #[fnv KK]) (he0 : ¬ ex e0) (hE : Enters Tryz.prog KK) (hq : IsQ KK k r f) :
    Calls Tryz.prog 94 #[.agg r.cells, .int .i64 (place : Int), .pointer (some ⟨e0, 0, none⟩)] w fun e w' => ∃ rv, e = .returned rv ∧ Arnd Tryz.prog S (callL k) (callL (k + 1)) ex rv (endF r place f) w' ∧ Below w.heap.size w w' := by
  obtain ⟨hb0, hr0⟩ := rule_room w r
  have hb1 : Below w.heap.size w ((w.alloc (ruleB r)).alloc (.cells #[.int .i64 (place : Int)] 3)) := hb0.alloc hb0.size _
  have hpl := Blk.new (w.alloc (ruleB r)) 3 #[.int .i64 (place : Int)]
  rw [show (w.alloc (ruleB r)).heap.size = w.heap.size + 1 by simp] at hpl
  have HA := Lib.hid (ends1_c S hS k ex e0 w.heap.size (w.heap.size + 1) KK place r f ((w.alloc (ruleB r)).alloc (.cells #[.int .i64 (place : Int)] 3)) (fun g h => Nat.lt_of_lt_of_le (hex g (hrow g h)) hb1.size) (by omega) hp (hb.below hb1 hb.lt) (hr0.alloc _) hpl he0 (fun h => Nat.lt_irrefl _ (hex _ h)) (fun h => by have := hex _ h; omega) hE hq)
  have HB := Lib.hid hb1
  have hcs : r.cells = #[.string r.path, .string r.name, .string r.value, .int .i64 r.kind, .int .i64 r.code, .int .i64 r.n] := rfl
  rw [hcs]
  clear hb0 hr0 hb1 hpl hcs hb
  go_enter Tryz.func94, Tryz.ntmps94
  go_wp2
  go_ret
  exact ⟨_, rfl, HA.out, HB.out⟩
end Go.Proofs.YthokfopeddaiiaaGreatDoor
