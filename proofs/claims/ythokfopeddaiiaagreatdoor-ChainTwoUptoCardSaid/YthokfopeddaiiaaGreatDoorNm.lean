/-
  Contracts: head.Name; grpc.Meta of a letter's name and of a sign.
-/
import Derived.Test.YthokfopeddaiiaaGreatDoorBase
import Derived.Test.YthokfopeddaiiaaGreatDoorShelf
import Derived.WalkKit
import Derived.Outline
import Derived.LoopTactic
namespace Go.Own.Head
/-- The signs that a name may have besides letters and digits. -/
def signs : List UInt8 := [33, 35, 36, 37, 38, 39, 42, 43, 45, 46, 94, 95, 96, 124, 126]
def nameC (c : UInt8) : Bool := decide (97 ≤ c.toNat ∧ c.toNat ≤ 122) || decide (48 ≤ c.toNat ∧ c.toNat ≤ 57) || Lib.contains signs (Utf8.encode (c.toNat : Int)).data.toList
/-- head.Name -/
def nameB (l : List UInt8) : Bool := !l.isEmpty && l.all nameC
end Go.Own.Head
namespace Go.Proofs.YthokfopeddaiiaaGreatDoor
open Go.RowKit Go.Own Go.Own.Head

/-- What the walks read of package-level variables. -/
structure EnvC (w : World) : Prop where
  value : ∃ e4, w.cell? ⟨0, 0, none⟩ = some (.iface 142 (.pointer (some e4)))
  top : ∃ m, w.cell? ⟨1, 0, none⟩ = some (.int .i64 m)
theorem EnvC.below {w w' : World} (he : EnvC w) (hb : Below w.heap.size w w') : EnvC w' := by
  obtain ⟨⟨e, h1⟩, ⟨m, h2⟩⟩ := he
  exact ⟨⟨e, (hb.cell (World.block_lt_of_cell? w _ h1)).trans h1⟩, ⟨m, (hb.cell (World.block_lt_of_cell? w _ h2)).trans h2⟩⟩
theorem idx_str {P : Program} {t : TypeId} (ht : P.underlying t = some .string) (s : ByteArray) (k : Nat) (i : Int) (hi : i = (k : Int)) (hk : k < s.size) (W : World) :
    (Instr.index t (.string s) (.int .i64 i)).run P W = .ok (.int .u8 ((s.data.toList.getD k 0).toNat : Int)) W := by
  subst hi
  have hk2 : (k : Int) < (s.size : Int) := by omega
  have e : s.data.toList.getD k 0 = s[k] := by
    rw [List.getD, List.getElem?_eq_getElem (by simpa using hk)]
    rfl
  simp [Instr.index, run_underlying ht, asIntOf, hk, e]
  rfl
theorem all_take_succ (l : List UInt8) (p : UInt8 → Bool) (k : Nat) (hk : k < l.length) (h : (l.take k).all p = true) (hp : p (l.getD k 0) = true) : (l.take (k + 1)).all p = true := by
  rw [List.take_succ_eq_append_getElem hk, List.all_append, h]
  have : l.getD k 0 = l[k] := by simp [List.getD, hk]
  rw [← this]
  simp only [List.all_cons, List.all_nil, hp, Bool.and_true, Bool.true_and]
theorem all_not (l : List UInt8) (p : UInt8 → Bool) (k : Nat) (hk : k < l.length) (hp : p (l.getD k 0) = false) : l.all p = false := by
  rw [Bool.eq_false_iff]
  intro h
  have := List.all_eq_true.1 h (l[k]) (List.getElem_mem hk)
  have e : l.getD k 0 = l[k] := by simp [List.getD, hk]
  rw [e] at hp
  rw [hp] at this
  cases this

def NamePost (l : List UInt8) (w : World) (e : Ending) (w' : World) : Prop := e = .returned (.bool (nameB l)) ∧ w = w'

set_option maxHeartbeats 2000000 in
set_option maxRecDepth 100000 in
theorem name_any (t : ByteArray) (w : World) (he : EnvC w) (hsz : t.size ≤ 1000000000) :
    Calls Tryz.prog 12 #[.string t] w (NamePost t.data.toList w) := by
  obtain ⟨m, hm⟩ := he.top
  have HC : ∀ sub : ByteArray, Hid (Calls Tryz.prog 39 #[.string ⟨#[33, 35, 36, 37, 38, 39, 42, 43, 45, 46, 94, 95, 96, 124, 126]⟩, .string sub] w fun e w' => e = .returned (.bool (Lib.contains signs sub.data.toList)) ∧ w = w') := fun sub =>
    Lib.hid ((Tryz.strings_Contains ⟨#[33, 35, 36, 37, 38, 39, 42, 43, 45, 46, 94, 95, 96, 124, 126]⟩ sub m w (by decide) hm).mono fun _ _ h => ⟨h.1, h.2.symm⟩)
  clear he hm
  go_enter Tryz.func12, Tryz.ntmps12
  go_wp2
  go_loop [7] (fun i => ∃ k : Nat, k ≤ t.size ∧ i = .int .i64 k ∧ Hid ((t.data.toList.take k).all nameC = true)) (fun i => t.size - (intOf i).toNat)
  case atStart => exact ⟨0, by omega, rfl, Lib.hid (by simp)⟩
  case round =>
    obtain ⟨k, hk, rfl, HA⟩ := hrel
    by_cases hlt : k < t.size
    · have hi0 := idx_str (P := Tryz.prog) Tryz.underlying9 t k (k : Int) rfl hlt
      obtain ⟨c, hc⟩ : ∃ c, t.data.toList.getD k 0 = c := ⟨_, rfl⟩
      rw [hc] at hi0
      obtain ⟨x, hx⟩ : ∃ x, c.toNat = x := ⟨_, rfl⟩
      rw [hx] at hi0
      have hx256 : x < 256 := by rw [← hx]; exact c.toNat_lt
      have HX := Lib.hid hx
      have HCC := Lib.hid hc
      clear hc hx
      by_cases h1 : (97 ≤ x ∧ x ≤ 122) ∨ (48 ≤ x ∧ x ≤ 57)
      · have HN : Hid ((t.data.toList.take (k + 1)).all nameC = true) := Lib.hid (all_take_succ _ _ _ hlt HA.out (by
          rw [HCC.out]
          unfold nameC
          rw [HX.out]
          rcases h1 with h | h <;> simp [h]))
        rcases h1 with ⟨l1, l2⟩ | ⟨l1, l2⟩
        all_goals
          go_wp2
          exact ⟨⟨k + 1, by omega, by go_num, HN⟩, by simp [intOf]; omega⟩
      · obtain ⟨b, hb⟩ : ∃ b, Lib.contains signs (Utf8.encode (x : Int)).data.toList = b := ⟨_, rfl⟩
        have hcon := (HC (Utf8.encode (x : Int))).out
        rw [hb] at hcon
        have HCON := Lib.hid hcon
        have hn : nameC (t.data.toList.getD k 0) = b := by
          rw [HCC.out]
          unfold nameC
          rw [HX.out, hb]
          have g1 : ¬ (97 ≤ x ∧ x ≤ 122) := fun h => h1 (.inl h)
          have g2 : ¬ (48 ≤ x ∧ x ≤ 57) := fun h => h1 (.inr h)
          simp [g1, g2]
        have HNN := Lib.hid hn
        have g1 : x < 97 ∨ 122 < x := by omega
        have g2 : x < 48 ∨ 57 < x := by omega
        clear hn hcon hb h1
        rcases b with _ | _
        · have HF : Hid (nameB t.data.toList = false) := Lib.hid (by unfold nameB; rw [all_not _ _ _ hlt HNN.out]; simp)
          rcases g1 with g1 | g1
          all_goals
            rcases g2 with g2 | g2
            all_goals first
              | omega
              | (go_wp2_with ((with_reducible refine (HCON.out).mono ?_); rintro e w' ⟨rfl, rfl⟩)
                 go_ret
                 exact ⟨by rw [HF.out]; rfl, rfl⟩)
        · have HN := Lib.hid (all_take_succ _ _ _ hlt HA.out HNN.out)
          rcases g1 with g1 | g1
          all_goals
            rcases g2 with g2 | g2
            all_goals first
              | omega
              | (go_wp2_with ((with_reducible refine (HCON.out).mono ?_); rintro e w' ⟨rfl, rfl⟩)
                 exact ⟨⟨k + 1, by omega, by go_num, HN⟩, by simp [intOf]; omega⟩)
    · have hk2 : k = t.size := by omega
      have HF : Hid (nameB t.data.toList = !t.toList.isEmpty) := Lib.hid (by
        have := HA.out
        rw [hk2, List.take_of_length_le (Nat.le_refl t.size)] at this
        unfold nameB
        rw [this, Lib.toList_data]
        simp)
      clear hk2
      go_wp2
      go_ret
      exact ⟨by rw [HF.out]; rfl, rfl⟩

set_option maxRecDepth 100000 in
theorem visible_yes (s : ByteArray) (w : World) (hn : s.size ≤ 1000000000) (h : ∀ k, k < s.size → 32 ≤ (s.data.toList.getD k 0).toNat ∧ (s.data.toList.getD k 0).toNat ≤ 126) :
    Calls Tryz.prog 37 #[.string s] w fun e w' => e = .returned (.bool true) ∧ w = w' := by
  have H := Lib.hid h
  clear h
  go_enter Tryz.func37, Tryz.ntmps37
  go_wp2
  go_loop [6] (fun i => ∃ k : Nat, k ≤ s.size ∧ i = .int .i64 k) (fun i => s.size - (intOf i).toNat)
  case atStart => exact ⟨0, by omega, rfl⟩
  case round =>
    obtain ⟨k, hk, rfl⟩ := hrel
    by_cases hlt : k < s.size
    · have hi0 := idx_str (P := Tryz.prog) Tryz.underlying9 s k (k : Int) rfl hlt
      obtain ⟨x, hx⟩ : ∃ x, (s.data.toList.getD k 0).toNat = x := ⟨_, rfl⟩
      have hb := H.out k hlt
      rw [hx] at hi0 hb
      obtain ⟨b1, b2⟩ := hb
      clear hx
      go_wp2
      exact ⟨⟨k + 1, by omega, by go_num⟩, by simp [intOf]; omega⟩
    · go_wp2
      go_ret
      exact ⟨rfl, rfl⟩
theorem blank_no (x : Int) (w : World) (h1 : (x == 32) = false) (h2 : (x == 9) = false) : Calls Tryz.prog 79 #[.int .u8 x] w fun e w' => e = .returned (.bool false) ∧ w = w' := by
  go_enter Tryz.func79, Tryz.ntmps79
  go_wp2
  go_ret
  exact ⟨rfl, rfl⟩
set_option maxRecDepth 100000 in
theorem value_one (c : UInt8) (w : World) (h1 : 33 ≤ c.toNat) (h2 : c.toNat ≤ 126) :
    Calls Tryz.prog 38 #[.string ⟨#[c]⟩] w fun e w' => e = .returned (.bool true) ∧ Below w.heap.size w w' := by
  have hc := Tryz.strings_ContainsAny_laid ⟨#[c]⟩ ⟨#[0, 13, 10]⟩ w (show 1 < 4294967281 by decide) (show 3 < 4294967281 by decide) (fun j b hb => by
    have : b = c := by
      rcases j with _ | j <;> simp at hb
      exact hb.symm
    rw [this]; omega) (fun j b hb => by
    rcases j with _ | _ | _ | j <;> simp at hb <;> subst hb <;> decide)
  have hf : Lib.containsAny (⟨#[c]⟩ : ByteArray).data.toList (⟨#[0, 13, 10]⟩ : ByteArray).data.toList = false := by
    have : ∀ n : Nat, n < 127 → 33 ≤ n → Lib.containsAny [UInt8.ofNat n] [0, 13, 10] = false := by decide +kernel
    have h := this c.toNat (by omega) h1
    rw [UInt8.ofNat_toNat] at h
    exact h
  rw [hf] at hc
  have HC := Lib.hid hc
  have hi0 := idx_str (P := Tryz.prog) Tryz.underlying9 ⟨#[c]⟩ 0 (0 : Int) rfl (show 0 < 1 by decide)
  obtain ⟨x, hx⟩ : ∃ x, c.toNat = x := ⟨_, rfl⟩
  rw [show ((⟨#[c]⟩ : ByteArray).data.toList.getD 0 0).toNat = c.toNat from rfl, hx] at hi0
  have hne : ((⟨#[c]⟩ : ByteArray).toList.isEmpty) = false := by rw [Lib.toList_data]; rfl
  have hb1 : ((x : Int) == 32) = false := by rw [beq_eq_false_iff_ne]; omega
  have hb2 : ((x : Int) == 9) = false := by rw [beq_eq_false_iff_ne]; omega
  have HBl : Hid (∀ W, Calls Tryz.prog 79 #[.int .u8 (x : Int)] W fun e w' => e = .returned (.bool false) ∧ W = w') := Lib.hid fun W => blank_no _ W hb1 hb2
  obtain ⟨s, hs⟩ : ∃ s : ByteArray, s = ⟨#[c]⟩ := ⟨_, rfl⟩
  have hsz : s.size = 1 := by rw [hs]; rfl
  rw [← hs] at HC hi0 hne ⊢
  clear hc hf hs hx h1 h2 hb1 hb2
  go_enter Tryz.func38, Tryz.ntmps38
  go_wp2_with fail
  refine HC.out.mono ?_
  rintro e w1 ⟨rfl, g1⟩
  have HB := Lib.hid g1
  clear g1
  go_wp2_with (go_at_call 79; refine (HBl.out _).mono ?_; rintro e w2 ⟨rfl, rfl⟩)
  go_ret
  exact ⟨rfl, HB.out⟩
end Go.Proofs.YthokfopeddaiiaaGreatDoor
