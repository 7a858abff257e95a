/-
  Contracts: head.Name; grpc.named, binary, Meta at the chapter's example.
-/
import Derived.Test.YtoafmhbgbofgoaaGreatDoorUnp
import Derived.Test.YtoafmhbgbofgoaaGreatDoorEnv
import Derived.LoopTactic
namespace Go.Own.Head
/-- The signs that a name may have besides letters and digits. -/
def signs : List UInt8 := [33, 35, 36, 37, 38, 39, 42, 43, 45, 46, 94, 95, 96, 124, 126]
def nameC (c : UInt8) : Bool := decide (97 ≤ c.toNat ∧ c.toNat ≤ 122) || decide (48 ≤ c.toNat ∧ c.toNat ≤ 57) || Lib.contains signs (Utf8.encode (c.toNat : Int)).data.toList
/-- head.Name -/
def nameB (l : List UInt8) : Bool := !l.isEmpty && l.all nameC
end Go.Own.Head
namespace Go.Proofs.YtoafmhbgbofgoaaGreatDoor.Gp
open Go.RowKit Go.Own Go.Own.Head

theorem all_take_succ (l : List UInt8) (p : UInt8 → Bool) (k : Nat) (hk : k < l.length) (h : (l.take k).all p = true) (hp : p (l.getD k 0) = true) : (l.take (k + 1)).all p = true := by
  rw [List.take_succ_eq_append_getElem hk, List.all_append, h]
  have : l.getD k 0 = l[k] := by simp [List.getD, hk]
  rw [← this]
  simp only [List.all_cons, List.all_nil, hp, Bool.and_true, Bool.true_and]
theorem all_not (l : List UInt8) (p : UInt8 → Bool) (k : Nat) (hk : k < l.length) (hp : p (l.getD k 0) = false) : l.all p = false := by
  rw [Bool.eq_false_iff]
  intro h
  have := List.all_eq_true.1 h (l[k]) (List.getElem_mem hk)
  have e : l.getD k 0 = l[k] := by simp [List.getD, hk]
  rw [e] at hp
  rw [hp] at this
  cases this

def NamePost (l : List UInt8) (w : World) (e : Ending) (w' : World) : Prop := e = .returned (.bool (nameB l)) ∧ w = w'

set_option maxHeartbeats 2000000 in
set_option maxRecDepth 100000 in
theorem name_any (t : ByteArray) (w : World) (e1 e2 e3 e4 : Addr) (he : EnvG w e1 e2 e3 e4) (hsz : t.size ≤ 1000000000) :
    Calls Tryz.prog 73 #[.string t] w (NamePost t.data.toList w) := by
  obtain ⟨m, hm⟩ := he.top
  have HC : ∀ sub : ByteArray, Hid (Calls Tryz.prog 94 #[.string ⟨#[33, 35, 36, 37, 38, 39, 42, 43, 45, 46, 94, 95, 96, 124, 126]⟩, .string sub] w fun e w' => e = .returned (.bool (Lib.contains signs sub.data.toList)) ∧ w = w') := fun sub =>
    Lib.hid ((Tryz.strings_Contains ⟨#[33, 35, 36, 37, 38, 39, 42, 43, 45, 46, 94, 95, 96, 124, 126]⟩ sub m w (by decide) hm).mono fun _ _ h => ⟨h.1, h.2.symm⟩)
  clear he hm
  go_enter Tryz.func73, Tryz.ntmps73
  go_wp2
  go_loop [7] (fun i => ∃ k : Nat, k ≤ t.size ∧ i = .int .i64 k ∧ Hid ((t.data.toList.take k).all nameC = true)) (fun i => t.size - (intOf i).toNat)
  case atStart => exact ⟨0, by omega, rfl, Lib.hid (by simp)⟩
  case round =>
    obtain ⟨k, hk, rfl, HA⟩ := hrel
    by_cases hlt : k < t.size
    · have hi0 := idx_str (P := Tryz.prog) Tryz.underlying9 t k (k : Int) rfl hlt
      obtain ⟨c, hc⟩ : ∃ c, t.data.toList.getD k 0 = c := ⟨_, rfl⟩
      rw [hc] at hi0
      obtain ⟨x, hx⟩ : ∃ x, c.toNat = x := ⟨_, rfl⟩
      rw [hx] at hi0
      have hx256 : x < 256 := by rw [← hx]; exact c.toNat_lt
      have HX := Lib.hid hx
      have HCC := Lib.hid hc
      clear hc hx
      by_cases h1 : (97 ≤ x ∧ x ≤ 122) ∨ (48 ≤ x ∧ x ≤ 57)
      · have HN : Hid ((t.data.toList.take (k + 1)).all nameC = true) := Lib.hid (all_take_succ _ _ _ hlt HA.out (by
          rw [HCC.out]
          unfold nameC
          rw [HX.out]
          rcases h1 with h | h <;> simp [h]))
        rcases h1 with ⟨l1, l2⟩ | ⟨l1, l2⟩
        all_goals
          go_wp2
          exact ⟨⟨k + 1, by omega, by go_num, HN⟩, by simp [intOf]; omega⟩
      · obtain ⟨b, hb⟩ : ∃ b, Lib.contains signs (Utf8.encode (x : Int)).data.toList = b := ⟨_, rfl⟩
        have hcon := (HC (Utf8.encode (x : Int))).out
        rw [hb] at hcon
        have HCON := Lib.hid hcon
        have hn : nameC (t.data.toList.getD k 0) = b := by
          rw [HCC.out]
          unfold nameC
          rw [HX.out, hb]
          have g1 : ¬ (97 ≤ x ∧ x ≤ 122) := fun h => h1 (.inl h)
          have g2 : ¬ (48 ≤ x ∧ x ≤ 57) := fun h => h1 (.inr h)
          simp [g1, g2]
        have HNN := Lib.hid hn
        have g1 : x < 97 ∨ 122 < x := by omega
        have g2 : x < 48 ∨ 57 < x := by omega
        clear hn hcon hb h1
        rcases b with _ | _
        · have HF : Hid (nameB t.data.toList = false) := Lib.hid (by unfold nameB; rw [all_not _ _ _ hlt HNN.out]; simp)
          rcases g1 with g1 | g1
          all_goals
            rcases g2 with g2 | g2
            all_goals first
              | omega
              | (go_wp2_with ((with_reducible refine (HCON.out).mono ?_); rintro e w' ⟨rfl, rfl⟩)
                 go_ret
                 exact ⟨by rw [HF.out]; rfl, rfl⟩)
        · have HN := Lib.hid (all_take_succ _ _ _ hlt HA.out HNN.out)
          rcases g1 with g1 | g1
          all_goals
            rcases g2 with g2 | g2
            all_goals first
              | omega
              | (go_wp2_with ((with_reducible refine (HCON.out).mono ?_); rintro e w' ⟨rfl, rfl⟩)
                 exact ⟨⟨k + 1, by omega, by go_num, HN⟩, by simp [intOf]; omega⟩)
    · have hk2 : k = t.size := by omega
      have HF : Hid (nameB t.data.toList = !t.toList.isEmpty) := Lib.hid (by
        have := HA.out
        rw [hk2, List.take_of_length_le (Nat.le_refl t.size)] at this
        unfold nameB
        rw [this, Lib.toList_data]
        simp)
      clear hk2
      go_wp2
      go_ret
      exact ⟨by rw [HF.out]; rfl, rfl⟩

set_option maxHeartbeats 1000000 in
set_option maxRecDepth 100000 in
theorem meta_abin (w : World) (e1 e2 e3 e4 : Addr) (he : EnvG w e1 e2 e3 e4) :
    Calls Tryz.prog 23 #[.string ⟨#[97, 45, 98, 105, 110]⟩, .string ⟨#[0]⟩] w fun e w' => e = .returned (.bool true) ∧ w = w' := by
  have hn := name_any ⟨#[97, 45, 98, 105, 110]⟩ w e1 e2 e3 e4 he (by decide)
  have hv : nameB (⟨#[97, 45, 98, 105, 110]⟩ : ByteArray).data.toList = true := by decide +kernel
  unfold NamePost at hn
  rw [hv] at hn
  have HN := Lib.hid hn
  have hp := Tryz.strings_HasPrefix ⟨#[97, 45, 98, 105, 110]⟩ ⟨#[103, 114, 112, 99, 45]⟩ w
  rw [show Lib.hasPrefix (⟨#[97, 45, 98, 105, 110]⟩ : ByteArray).data.toList (⟨#[103, 114, 112, 99, 45]⟩ : ByteArray).data.toList = false by decide +kernel] at hp
  have HP := Lib.hid hp
  have hs := Tryz.strings_HasSuffix ⟨#[97, 45, 98, 105, 110]⟩ ⟨#[45, 98, 105, 110]⟩ w (by decide)
  rw [show Lib.hasSuffix (⟨#[97, 45, 98, 105, 110]⟩ : ByteArray).data.toList (⟨#[45, 98, 105, 110]⟩ : ByteArray).data.toList = true by decide +kernel] at hs
  have HS := Lib.hid hs
  clear hn hv hp hs he
  go_enter Tryz.func23, Tryz.ntmps23
  go_wp2_with (first
    | (go_at_call 73; refine HN.out.mono ?_; rintro e w' ⟨rfl, rfl⟩)
    | (go_at_call 36; refine HP.out.mono ?_; rintro e w' ⟨rfl, rfl⟩)
    | (go_at_call 76; refine HS.out.mono ?_; rintro e w' ⟨rfl, rfl⟩)
    | go_in)
  go_ret
  exact ⟨rfl, rfl⟩
end Go.Proofs.YtoafmhbgbofgoaaGreatDoor.Gp
