/-
  Contracts: head.Name, head.blank, strings.ContainsAny at three signs, head.Value, head.plain.
-/
import Derived.Test.YtkikcinpgbgbdaaDoorBase
import Derived.Test.YtkikcinpgbgbdaaDoorShelf
import Derived.Test.YtkikcinpgbgbdaaDoorHp
import Derived.WalkKit
import Derived.Outline
import Derived.LoopTactic
import Derived.Laws.RangeAny
import Derived.Laws.Strings3
import Derived.Deep.LoopGhost
namespace Go.Proofs.YtkikcinpgbgbdaaDoor
open Go.RowKit Go.Own Go.Own.Hd
/-- What the walks read of package-level variables. -/
structure EnvH (w : World) (e1 e2 e3 : Addr) : Prop where
  head : w.cell? ⟨0, 0, none⟩ = some (.iface 107 (.pointer (some e1)))
  synt : w.cell? ⟨1, 0, none⟩ = some (.iface 107 (.pointer (some e2)))
  rang : w.cell? ⟨2, 0, none⟩ = some (.iface 107 (.pointer (some e3)))
  top : ∃ m, w.cell? ⟨6, 0, none⟩ = some (.int .i64 m)
  pow : Lib.TabIs Tryd.prog w "internal/strconv.uint64pow10" .u64 Lib.pow10Tab
  room : 9 ≤ w.heap.size
theorem EnvH.kept {w w' : World} {e1 e2 e3 : Addr} (he : EnvH w e1 e2 e3) (hk : ∀ i, i < 9 → w'.heap[i]? = w.heap[i]?) (hz : 9 ≤ w'.heap.size) : EnvH w' e1 e2 e3 := by
  have hc : ∀ i, i < 9 → ∀ o, w'.cell? ⟨i, o, none⟩ = w.cell? ⟨i, o, none⟩ := fun i hi o => World.cell?_of_block (hk i hi)
  obtain ⟨m, hm⟩ := he.top
  refine ⟨(hc _ (by decide) _).trans he.head, (hc _ (by decide) _).trans he.synt, (hc _ (by decide) _).trans he.rang, ⟨m, (hc _ (by decide) _).trans hm⟩, ?_, hz⟩
  have ht := he.pow
  unfold Lib.TabIs World.var? at ht ⊢
  rw [show Tryd.prog.globalNamed "internal/strconv.uint64pow10" = some 3 by kernel_rfl] at ht ⊢
  simp only [Option.bind_some] at ht ⊢
  rw [hk _ (by decide)]
  exact ht
theorem EnvH.below {w w' : World} {B : Nat} {e1 e2 e3 : Addr} (he : EnvH w e1 e2 e3) (hb : Below B w w') (hB : 9 ≤ B) : EnvH w' e1 e2 e3 :=
  he.kept (fun i hi => hb.block i (by omega)) (Nat.le_trans he.room hb.size)
theorem EnvH.grown {w w' : World} {row : Option Nat} {e1 e2 e3 : Addr} (he : EnvH w e1 e2 e3) (hb : w.grownBy w' row) (hr : ∀ g, row = some g → 9 ≤ g) : EnvH w' e1 e2 e3 :=
  he.kept (fun i hi => hb.block i (by have := he.room; omega) (fun e => by have := hr i e.symm; omega)) (Nat.le_trans he.room hb.size)
theorem idx_str {P : Program} {t : TypeId} (ht : P.underlying t = some .string) (s : ByteArray) (k : Nat) (i : Int) (hi : i = (k : Int)) (hk : k < s.size) (W : World) :
    (Instr.index t (.string s) (.int .i64 i)).run P W = .ok (.int .u8 ((s.data.toList.getD k 0).toNat : Int)) W := by
  subst hi
  have hk2 : (k : Int) < (s.size : Int) := by omega
  have e : s.data.toList.getD k 0 = s[k] := by
    rw [List.getD, List.getElem?_eq_getElem (by simpa using hk)]
    rfl
  simp [Instr.index, run_underlying ht, asIntOf, hk, e]
  rfl
theorem all_take_succ (l : List UInt8) (p : UInt8 → Bool) (k : Nat) (hk : k < l.length) (h : (l.take k).all p = true) (hp : p (l.getD k 0) = true) : (l.take (k + 1)).all p = true := by
  rw [List.take_succ_eq_append_getElem hk, List.all_append, h]
  have : l.getD k 0 = l[k] := by simp [List.getD, hk]
  rw [← this]
  simp only [List.all_cons, List.all_nil, hp, Bool.and_true, Bool.true_and]
theorem all_not (l : List UInt8) (p : UInt8 → Bool) (k : Nat) (hk : k < l.length) (hp : p (l.getD k 0) = false) : l.all p = false := by
  rw [Bool.eq_false_iff]
  intro h
  have := List.all_eq_true.1 h (l[k]) (List.getElem_mem hk)
  have e : l.getD k 0 = l[k] := by simp [List.getD, hk]
  rw [e] at hp
  rw [hp] at this
  cases this

def NamePost (l : List UInt8) (w : World) (e : Ending) (w' : World) : Prop := e = .returned (.bool (nameB l)) ∧ w = w'

set_option maxHeartbeats 2000000 in
set_option maxRecDepth 100000 in
theorem name_any (t : ByteArray) (w : World) {e1 e2 e3 : Addr} (he : EnvH w e1 e2 e3) (hsz : t.size ≤ 1000000000) :
    Calls Tryd.prog 34 #[.string t] w (NamePost t.data.toList w) := by
  obtain ⟨m, hm⟩ := he.top
  have HC : ∀ sub : ByteArray, Hid (Calls Tryd.prog 50 #[.string ⟨#[33, 35, 36, 37, 38, 39, 42, 43, 45, 46, 94, 95, 96, 124, 126]⟩, .string sub] w fun e w' => e = .returned (.bool (Lib.contains signs sub.data.toList)) ∧ w = w') := fun sub =>
    Lib.hid ((Tryd.strings_Contains ⟨#[33, 35, 36, 37, 38, 39, 42, 43, 45, 46, 94, 95, 96, 124, 126]⟩ sub m w (by decide) hm).mono fun _ _ h => ⟨h.1, h.2.symm⟩)
  clear he hm
  go_enter Tryd.func34, Tryd.ntmps34
  go_wp2
  go_loop [7] (fun i => ∃ k : Nat, k ≤ t.size ∧ i = .int .i64 k ∧ Hid ((t.data.toList.take k).all nameC = true)) (fun i => t.size - (intOf i).toNat)
  case atStart => exact ⟨0, by omega, rfl, Lib.hid (by simp)⟩
  case round =>
    obtain ⟨k, hk, rfl, HA⟩ := hrel
    by_cases hlt : k < t.size
    · have hi0 := idx_str (P := Tryd.prog) Tryd.underlying9 t k (k : Int) rfl hlt
      obtain ⟨c, hc⟩ : ∃ c, t.data.toList.getD k 0 = c := ⟨_, rfl⟩
      rw [hc] at hi0
      obtain ⟨x, hx⟩ : ∃ x, c.toNat = x := ⟨_, rfl⟩
      rw [hx] at hi0
      have hx256 : x < 256 := by rw [← hx]; exact c.toNat_lt
      have HX := Lib.hid hx
      have HCC := Lib.hid hc
      clear hc hx
      by_cases h1 : (97 ≤ x ∧ x ≤ 122) ∨ (48 ≤ x ∧ x ≤ 57)
      · have HN : Hid ((t.data.toList.take (k + 1)).all nameC = true) := Lib.hid (all_take_succ _ _ _ hlt HA.out (by
          rw [HCC.out]
          unfold nameC
          rw [HX.out]
          rcases h1 with h | h <;> simp [h]))
        rcases h1 with ⟨l1, l2⟩ | ⟨l1, l2⟩
        all_goals
          go_wp2
          exact ⟨⟨k + 1, by omega, by go_num, HN⟩, by simp [intOf]; omega⟩
      · obtain ⟨b, hb⟩ : ∃ b, Lib.contains signs (Utf8.encode (x : Int)).data.toList = b := ⟨_, rfl⟩
        have hcon := (HC (Utf8.encode (x : Int))).out
        rw [hb] at hcon
        have HCON := Lib.hid hcon
        have hn : nameC (t.data.toList.getD k 0) = b := by
          rw [HCC.out]
          unfold nameC
          rw [HX.out, hb]
          have g1 : ¬ (97 ≤ x ∧ x ≤ 122) := fun h => h1 (.inl h)
          have g2 : ¬ (48 ≤ x ∧ x ≤ 57) := fun h => h1 (.inr h)
          simp [g1, g2]
        have HNN := Lib.hid hn
        have g1 : x < 97 ∨ 122 < x := by omega
        have g2 : x < 48 ∨ 57 < x := by omega
        clear hn hcon hb h1
        rcases b with _ | _
        · have HF : Hid (nameB t.data.toList = false) := Lib.hid (by unfold nameB; rw [all_not _ _ _ hlt HNN.out]; simp)
          rcases g1 with g1 | g1
          all_goals
            rcases g2 with g2 | g2
            all_goals first
              | omega
              | (go_wp2_with ((with_reducible refine (HCON.out).mono ?_); rintro e w' ⟨rfl, rfl⟩)
                 go_ret
                 exact ⟨by rw [HF.out]; rfl, rfl⟩)
        · have HN := Lib.hid (all_take_succ _ _ _ hlt HA.out HNN.out)
          rcases g1 with g1 | g1
          all_goals
            rcases g2 with g2 | g2
            all_goals first
              | omega
              | (go_wp2_with ((with_reducible refine (HCON.out).mono ?_); rintro e w' ⟨rfl, rfl⟩)
                 exact ⟨⟨k + 1, by omega, by go_num, HN⟩, by simp [intOf]; omega⟩)
    · have hk2 : k = t.size := by omega
      have HF : Hid (nameB t.data.toList = !t.toList.isEmpty) := Lib.hid (by
        have := HA.out
        rw [hk2, List.take_of_length_le (Nat.le_refl t.size)] at this
        unfold nameB
        rw [this, Lib.toList_data]
        simp)
      clear hk2
      go_wp2
      go_ret
      exact ⟨by rw [HF.out]; rfl, rfl⟩

theorem blank_any (c : UInt8) (x : Int) (hx : x = (c.toNat : Int)) (w : World) : Calls Tryd.prog 43 #[.int .u8 x] w fun e w' => e = .returned (.bool (blankB c)) ∧ w = w' := by
  subst hx
  have h1 : (((c.toNat : Nat) : Int) == 32) = (c == 32) := by
    rw [Bool.eq_iff_iff]; simp only [beq_iff_eq]
    constructor
    · intro h; exact UInt8.toNat_inj.1 (by simpa using (by omega : c.toNat = 32))
    · rintro rfl; rfl
  have h2 : (((c.toNat : Nat) : Int) == 9) = (c == 9) := by
    rw [Bool.eq_iff_iff]; simp only [beq_iff_eq]
    constructor
    · intro h; exact UInt8.toNat_inj.1 (by simpa using (by omega : c.toNat = 9))
    · rintro rfl; rfl
  have HB : Hid (blankB c = (((c.toNat : Nat) : Int) == 32 || ((c.toNat : Nat) : Int) == 9)) := Lib.hid (by rw [h1, h2]; rfl)
  clear h1 h2
  obtain ⟨x, hx⟩ : ∃ x : Int, ((c.toNat : Nat) : Int) = x := ⟨_, rfl⟩
  rw [hx] at HB ⊢
  clear hx
  by_cases g1 : x = 32
  · subst g1
    go_enter Tryd.func43, Tryd.ntmps43
    go_wp2
    go_ret
    exact ⟨by rw [HB.out]; rfl, rfl⟩
  · have g2 : (x == 32) = false := by rw [beq_eq_false_iff_ne]; exact g1
    go_enter Tryd.func43, Tryd.ntmps43
    go_wp2
    go_ret
    exact ⟨by rw [HB.out, g2]; rfl, rfl⟩
end Go.Proofs.YtkikcinpgbgbdaaDoor
