/-
  Contracts: grpc.Untimeout at the texts that grpc.Timeout makes; grpc.Timeout of a number that is more than 0.
-/
import Derived.Test.YtoafmhbgbofgoaaGreatDoorGs
import Derived.Test.YtoafmhbgbofgoaaGreatDoorUnt
import Derived.Test.YtoafmhbgbofgoaaGreatDoorFst
import Derived.Lib.SlTrimSet
import Derived.Lib.ItoaMem
namespace Go.Own.Gb
def digs : List UInt8 := [48, 49, 50, 51, 52, 53, 54, 55, 56, 57]
theorem digs_at : ∀ k < 10, UInt8.ofNat (48 + k) ∈ digs ∧ Lib.digitVal (UInt8.ofNat (48 + k)) = some k := by decide +kernel
theorem dec_mem (u : Nat) : ∀ c ∈ Lib.decDigits u, c ∈ digs := by
  induction u using Nat.strongRecOn with
  | _ u ih =>
    rw [Lib.decDigits]
    split
    · rename_i h
      intro c hc
      rw [List.mem_singleton] at hc
      rw [hc]
      exact (digs_at u h).1
    · rename_i h
      intro c hc
      rw [List.mem_append, List.mem_singleton] at hc
      rcases hc with hc | rfl
      · exact ih (u / 10) (by omega) c hc
      · exact (digs_at (u % 10) (by omega)).1
theorem decFrom_app (l : List UInt8) : ∀ (a n : Nat) (b : UInt8) (d : Nat), Lib.decFrom a l = some n → Lib.digitVal b = some d → Lib.decFrom a (l ++ [b]) = some (n * 10 + d) := by
  induction l with
  | nil => intro a n b d h1 h2; injection h1 with h1; subst h1; rw [List.nil_append, Lib.decFrom, h2]; rfl
  | cons x l ih =>
    intro a n b d h1 h2
    rw [Lib.decFrom] at h1
    rw [List.cons_append, Lib.decFrom]
    rcases hx : Lib.digitVal x with _ | v
    · rw [hx] at h1; cases h1
    · rw [hx] at h1
      exact ih _ n b d h1 h2
theorem dec_from (u : Nat) : Lib.decFrom 0 (Lib.decDigits u) = some u := by
  induction u using Nat.strongRecOn with
  | _ u ih =>
    rw [Lib.decDigits]
    split
    · rename_i h
      rw [Lib.decFrom, (digs_at u h).2]
      show some (0 * 10 + u) = some u
      rw [Nat.zero_mul, Nat.zero_add]
    · rename_i h
      rw [decFrom_app _ 0 (u / 10) _ (u % 10) (ih (u / 10) (by omega)) (digs_at (u % 10) (by omega)).2]
      congr 1
      omega
theorem dec_len : ∀ (k u : Nat), u < 10 ^ (k + 1) → (Lib.decDigits u).length ≤ k + 1
  | 0, u, h => by rw [Lib.decDigits_length, Lib.nDigits_small (by simpa using h)]; exact Nat.le_refl _
  | k + 1, u, h => by
    by_cases h10 : u < 10
    · rw [Lib.decDigits_length, Lib.nDigits_small h10]; omega
    · have ih := dec_len k (u / 10) (by rw [Nat.pow_succ] at h; omega)
      rw [Lib.decDigits_length] at ih ⊢
      rw [Lib.nDigits_big h10]
      omega
theorem dec_pos (u : Nat) : 1 ≤ (Lib.decDigits u).length := by rw [Lib.decDigits_length]; exact Lib.nDigits_pos u
theorem dec_atoi (u : Nat) : Lib.atoi (Lib.decDigits u) = some (u : Int) := by
  have h1 := dec_from u
  have h2 := dec_mem u
  have h3 := dec_pos u
  rcases hd : Lib.decDigits u with _ | ⟨b, r⟩
  · rw [hd] at h3; cases h3
  · rw [hd] at h1 h2
    have hb := h2 b List.mem_cons_self
    unfold Lib.atoi
    have n1 : (b == 45) = false := by rw [beq_eq_false_iff_ne]; rintro rfl; exact absurd hb (by decide)
    have n2 : (b == 43) = false := by rw [beq_eq_false_iff_ne]; rintro rfl; exact absurd hb (by decide)
    simp only [n1, n2, Bool.false_eq_true, if_false]
    unfold Lib.decNat
    rw [List.isEmpty_cons, if_neg (by decide), h1]
    rfl
theorem trim_digs (l : List UInt8) (h : ∀ c ∈ l, c ∈ digs) : Lib.trimS l digs = [] := by
  unfold Lib.trimS
  rw [Lib.trimRightS_take l digs 0 (Nat.zero_le _) (fun j b _ hb => List.contains_iff_mem.2 (h b (List.mem_of_getElem? hb))) (fun b h0 _ => absurd h0 (by omega))]
  rfl
/-- A text of a number and a letter. -/
def tmT (n : Nat) (c : UInt8) : ByteArray := ⟨(Lib.decDigits n ++ [c]).toArray⟩
def decT (n : Nat) : ByteArray := ⟨(Lib.decDigits n).toArray⟩
theorem tmT_size (n : Nat) (c : UInt8) : (tmT n c).size = (Lib.decDigits n).length + 1 := by
  rw [Lib.size_eq]; show (Lib.decDigits n ++ [c]).length = _; simp
theorem tmT_get (n : Nat) (c : UInt8) : (tmT n c).data.toList.getD (Lib.decDigits n).length 0 = c := by
  show (Lib.decDigits n ++ [c]).getD _ 0 = c
  simp [List.getD]
theorem tmT_cut (n : Nat) (c : UInt8) : (tmT n c).extract 0 (Lib.decDigits n).length = decT n := by
  unfold tmT decT
  rw [ByteArray.extract_mk]
  simp
end Go.Own.Gb
namespace Go.Proofs.YtoafmhbgbofgoaaGreatDoor
open Go.RowKit Go.Own Go.Own.Gb Go.Proofs.YtoafmhbgbofgoaaGreatDoor.Gp
def TmPost (v : Int) (w : World) (e : Ending) (w' : World) : Prop := e = .returned (.tuple #[.int .i64 v, .nilIface]) ∧ Below w.heap.size w w'

set_option maxHeartbeats 4000000 in
set_option maxRecDepth 100000 in
theorem untimeout_H (n : Nat) (hn : n ≤ 99999999) (w : World) : Calls Tryz.prog 19 #[.string (tmT n 72)] w (TmPost ((n : Int) * 3600000) w) := by
  obtain ⟨m, hm⟩ : ∃ m, (Lib.decDigits n).length = m := ⟨_, rfl⟩
  have hm1 : 1 ≤ m := hm ▸ dec_pos n
  have hm8 : m ≤ 8 := hm ▸ dec_len 7 n (by omega)
  have hsz := tmT_size n 72
  have hgt := tmT_get n 72
  have hct := tmT_cut n 72
  have htr := Tryz.strings_Trim_laid (decT n) ⟨#[48, 49, 50, 51, 52, 53, 54, 55, 56, 57]⟩ w (by rw [Lib.size_eq]; show (Lib.decDigits n).length ≤ _; omega) (by decide) (ascii_of_all (by decide))
  rw [show Lib.trimS (decT n).data.toList (⟨#[48, 49, 50, 51, 52, 53, 54, 55, 56, 57]⟩ : ByteArray).data.toList = [] from trim_digs _ (dec_mem n)] at htr
  have hat := fun W => Tryz.strconv_Atoi (decT n) (n : Int) (by rw [Lib.size_eq]; show (Lib.decDigits n).length ≤ _; omega) (dec_atoi n) W
  rw [hm] at hsz hgt hct
  generalize tmT n 72 = S at hsz hgt hct ⊢
  generalize decT n = D at hct htr hat
  have hsl : ∀ W : World, (Instr.slice 9 (.string S) none (some (.int .i64 ((S.size : Int) - 1))) none).run Tryz.prog W = .ok (.string D) W := fun W => by
    rw [show (S.size : Int) - 1 = (m : Int) by omega, run_slice_string_to_if (P := Tryz.prog) (w := W) 9 S .i64 (m : Int) Tryz.underlying9, if_pos (by omega), Int.toNat_natCast, hct]
  have hix : ∀ W : World, (Instr.index 9 (.string S) (.int .i64 ((S.size : Int) - 1))).run Tryz.prog W = .ok (.int .u8 72) W := fun W => by
    rw [idx_str (P := Tryz.prog) Tryz.underlying9 S m _ (by omega) (by omega) W, hgt]
    rfl
  have h2 : ¬ ((S.size : Int) < 2) := by omega
  have h9 : ¬ ((9 : Int) < (S.size : Int)) := by omega
  have hw1 : IntKind.i64.wrap ((S.size : Int) - 1) = (S.size : Int) - 1 := IntWalk.i64_in _ (by omega)
  have hw2 : IntKind.i64.wrap ((n : Int) * 3600000) = (n : Int) * 3600000 := IntWalk.i64_in _ (by omega)
  have HT := Lib.hid htr
  have HA := Lib.hid hat
  clear htr hat hsz hgt hct hm hm1
  go_enter Tryz.func19, Tryz.ntmps19
  go_wp2_with fail
  refine HT.out.mono ?_
  rintro e w1 ⟨rfl, hb1⟩
  have HB1 := Lib.hid hb1
  clear hb1
  go_wp2_with fail
  go_region_held3 (fun _ => True) (trivial) (first
    | (go_simp; go_at_call 45; refine (units_any _).mono ?_; rintro e w2 ⟨rfl, hb2, hm2⟩; have hlk := look_units w1.heap.size 72 3600000000000 w2 hm2 0 rfl)
    | fail)
  all_goals
    have HB2 := Lib.hid (HB1.out.trans (Below.mono (below_of_drew hb2) HB1.out.size))
    clear hb2 hm2 hlk hix
    go_wp2_with fail
    refine (HA.out _).mono ?_
    rintro e w3 ⟨rfl, t, rfl⟩
    have HB3 := Lib.hid (HB2.out.trans ((Lib.bytesWorld_below w2 5 t).mono HB2.out.size))
    go_wp2
    go_ret2
    exact ⟨rfl, HB3.out⟩

set_option maxHeartbeats 4000000 in
set_option maxRecDepth 100000 in
theorem untimeout_M (n : Nat) (hn : n ≤ 99999999) (w : World) : Calls Tryz.prog 19 #[.string (tmT n 77)] w (TmPost ((n : Int) * 60000) w) := by
  obtain ⟨m, hm⟩ : ∃ m, (Lib.decDigits n).length = m := ⟨_, rfl⟩
  have hm1 : 1 ≤ m := hm ▸ dec_pos n
  have hm8 : m ≤ 8 := hm ▸ dec_len 7 n (by omega)
  have hsz := tmT_size n 77
  have hgt := tmT_get n 77
  have hct := tmT_cut n 77
  have htr := Tryz.strings_Trim_laid (decT n) ⟨#[48, 49, 50, 51, 52, 53, 54, 55, 56, 57]⟩ w (by rw [Lib.size_eq]; show (Lib.decDigits n).length ≤ _; omega) (by decide) (ascii_of_all (by decide))
  rw [show Lib.trimS (decT n).data.toList (⟨#[48, 49, 50, 51, 52, 53, 54, 55, 56, 57]⟩ : ByteArray).data.toList = [] from trim_digs _ (dec_mem n)] at htr
  have hat := fun W => Tryz.strconv_Atoi (decT n) (n : Int) (by rw [Lib.size_eq]; show (Lib.decDigits n).length ≤ _; omega) (dec_atoi n) W
  rw [hm] at hsz hgt hct
  generalize tmT n 77 = S at hsz hgt hct ⊢
  generalize decT n = D at hct htr hat
  have hsl : ∀ W : World, (Instr.slice 9 (.string S) none (some (.int .i64 ((S.size : Int) - 1))) none).run Tryz.prog W = .ok (.string D) W := fun W => by
    rw [show (S.size : Int) - 1 = (m : Int) by omega, run_slice_string_to_if (P := Tryz.prog) (w := W) 9 S .i64 (m : Int) Tryz.underlying9, if_pos (by omega), Int.toNat_natCast, hct]
  have hix : ∀ W : World, (Instr.index 9 (.string S) (.int .i64 ((S.size : Int) - 1))).run Tryz.prog W = .ok (.int .u8 77) W := fun W => by
    rw [idx_str (P := Tryz.prog) Tryz.underlying9 S m _ (by omega) (by omega) W, hgt]
    rfl
  have h2 : ¬ ((S.size : Int) < 2) := by omega
  have h9 : ¬ ((9 : Int) < (S.size : Int)) := by omega
  have hw1 : IntKind.i64.wrap ((S.size : Int) - 1) = (S.size : Int) - 1 := IntWalk.i64_in _ (by omega)
  have hw2 : IntKind.i64.wrap ((n : Int) * 60000) = (n : Int) * 60000 := IntWalk.i64_in _ (by omega)
  have HT := Lib.hid htr
  have HA := Lib.hid hat
  clear htr hat hsz hgt hct hm hm1
  go_enter Tryz.func19, Tryz.ntmps19
  go_wp2_with fail
  refine HT.out.mono ?_
  rintro e w1 ⟨rfl, hb1⟩
  have HB1 := Lib.hid hb1
  clear hb1
  go_wp2_with fail
  go_region_held3 (fun _ => True) (trivial) (first
    | (go_simp; go_at_call 45; refine (units_any _).mono ?_; rintro e w2 ⟨rfl, hb2, hm2⟩; have hlk := look_units w1.heap.size 77 60000000000 w2 hm2 1 rfl)
    | fail)
  all_goals
    have HB2 := Lib.hid (HB1.out.trans (Below.mono (below_of_drew hb2) HB1.out.size))
    clear hb2 hm2 hlk hix
    go_wp2_with fail
    refine (HA.out _).mono ?_
    rintro e w3 ⟨rfl, t, rfl⟩
    have HB3 := Lib.hid (HB2.out.trans ((Lib.bytesWorld_below w2 5 t).mono HB2.out.size))
    go_wp2
    go_ret2
    exact ⟨rfl, HB3.out⟩

set_option maxHeartbeats 4000000 in
set_option maxRecDepth 100000 in
theorem untimeout_S (n : Nat) (hn : n ≤ 99999999) (w : World) : Calls Tryz.prog 19 #[.string (tmT n 83)] w (TmPost ((n : Int) * 1000) w) := by
  obtain ⟨m, hm⟩ : ∃ m, (Lib.decDigits n).length = m := ⟨_, rfl⟩
  have hm1 : 1 ≤ m := hm ▸ dec_pos n
  have hm8 : m ≤ 8 := hm ▸ dec_len 7 n (by omega)
  have hsz := tmT_size n 83
  have hgt := tmT_get n 83
  have hct := tmT_cut n 83
  have htr := Tryz.strings_Trim_laid (decT n) ⟨#[48, 49, 50, 51, 52, 53, 54, 55, 56, 57]⟩ w (by rw [Lib.size_eq]; show (Lib.decDigits n).length ≤ _; omega) (by decide) (ascii_of_all (by decide))
  rw [show Lib.trimS (decT n).data.toList (⟨#[48, 49, 50, 51, 52, 53, 54, 55, 56, 57]⟩ : ByteArray).data.toList = [] from trim_digs _ (dec_mem n)] at htr
  have hat := fun W => Tryz.strconv_Atoi (decT n) (n : Int) (by rw [Lib.size_eq]; show (Lib.decDigits n).length ≤ _; omega) (dec_atoi n) W
  rw [hm] at hsz hgt hct
  generalize tmT n 83 = S at hsz hgt hct ⊢
  generalize decT n = D at hct htr hat
  have hsl : ∀ W : World, (Instr.slice 9 (.string S) none (some (.int .i64 ((S.size : Int) - 1))) none).run Tryz.prog W = .ok (.string D) W := fun W => by
    rw [show (S.size : Int) - 1 = (m : Int) by omega, run_slice_string_to_if (P := Tryz.prog) (w := W) 9 S .i64 (m : Int) Tryz.underlying9, if_pos (by omega), Int.toNat_natCast, hct]
  have hix : ∀ W : World, (Instr.index 9 (.string S) (.int .i64 ((S.size : Int) - 1))).run Tryz.prog W = .ok (.int .u8 83) W := fun W => by
    rw [idx_str (P := Tryz.prog) Tryz.underlying9 S m _ (by omega) (by omega) W, hgt]
    rfl
  have h2 : ¬ ((S.size : Int) < 2) := by omega
  have h9 : ¬ ((9 : Int) < (S.size : Int)) := by omega
  have hw1 : IntKind.i64.wrap ((S.size : Int) - 1) = (S.size : Int) - 1 := IntWalk.i64_in _ (by omega)
  have hw2 : IntKind.i64.wrap ((n : Int) * 1000) = (n : Int) * 1000 := IntWalk.i64_in _ (by omega)
  have HT := Lib.hid htr
  have HA := Lib.hid hat
  clear htr hat hsz hgt hct hm hm1
  go_enter Tryz.func19, Tryz.ntmps19
  go_wp2_with fail
  refine HT.out.mono ?_
  rintro e w1 ⟨rfl, hb1⟩
  have HB1 := Lib.hid hb1
  clear hb1
  go_wp2_with fail
  go_region_held3 (fun _ => True) (trivial) (first
    | (go_simp; go_at_call 45; refine (units_any _).mono ?_; rintro e w2 ⟨rfl, hb2, hm2⟩; have hlk := look_units w1.heap.size 83 1000000000 w2 hm2 2 rfl)
    | fail)
  all_goals
    have HB2 := Lib.hid (HB1.out.trans (Below.mono (below_of_drew hb2) HB1.out.size))
    clear hb2 hm2 hlk hix
    go_wp2_with fail
    refine (HA.out _).mono ?_
    rintro e w3 ⟨rfl, t, rfl⟩
    have HB3 := Lib.hid (HB2.out.trans ((Lib.bytesWorld_below w2 5 t).mono HB2.out.size))
    go_wp2
    go_ret2
    exact ⟨rfl, HB3.out⟩

set_option maxHeartbeats 4000000 in
set_option maxRecDepth 100000 in
theorem untimeout_m (n : Nat) (hn : n ≤ 99999999) (w : World) : Calls Tryz.prog 19 #[.string (tmT n 109)] w (TmPost ((n : Int) * 1) w) := by
  obtain ⟨m, hm⟩ : ∃ m, (Lib.decDigits n).length = m := ⟨_, rfl⟩
  have hm1 : 1 ≤ m := hm ▸ dec_pos n
  have hm8 : m ≤ 8 := hm ▸ dec_len 7 n (by omega)
  have hsz := tmT_size n 109
  have hgt := tmT_get n 109
  have hct := tmT_cut n 109
  have htr := Tryz.strings_Trim_laid (decT n) ⟨#[48, 49, 50, 51, 52, 53, 54, 55, 56, 57]⟩ w (by rw [Lib.size_eq]; show (Lib.decDigits n).length ≤ _; omega) (by decide) (ascii_of_all (by decide))
  rw [show Lib.trimS (decT n).data.toList (⟨#[48, 49, 50, 51, 52, 53, 54, 55, 56, 57]⟩ : ByteArray).data.toList = [] from trim_digs _ (dec_mem n)] at htr
  have hat := fun W => Tryz.strconv_Atoi (decT n) (n : Int) (by rw [Lib.size_eq]; show (Lib.decDigits n).length ≤ _; omega) (dec_atoi n) W
  rw [hm] at hsz hgt hct
  generalize tmT n 109 = S at hsz hgt hct ⊢
  generalize decT n = D at hct htr hat
  have hsl : ∀ W : World, (Instr.slice 9 (.string S) none (some (.int .i64 ((S.size : Int) - 1))) none).run Tryz.prog W = .ok (.string D) W := fun W => by
    rw [show (S.size : Int) - 1 = (m : Int) by omega, run_slice_string_to_if (P := Tryz.prog) (w := W) 9 S .i64 (m : Int) Tryz.underlying9, if_pos (by omega), Int.toNat_natCast, hct]
  have hix : ∀ W : World, (Instr.index 9 (.string S) (.int .i64 ((S.size : Int) - 1))).run Tryz.prog W = .ok (.int .u8 109) W := fun W => by
    rw [idx_str (P := Tryz.prog) Tryz.underlying9 S m _ (by omega) (by omega) W, hgt]
    rfl
  have h2 : ¬ ((S.size : Int) < 2) := by omega
  have h9 : ¬ ((9 : Int) < (S.size : Int)) := by omega
  have hw1 : IntKind.i64.wrap ((S.size : Int) - 1) = (S.size : Int) - 1 := IntWalk.i64_in _ (by omega)
  have hw2 : IntKind.i64.wrap ((n : Int) * 1) = (n : Int) * 1 := IntWalk.i64_in _ (by omega)
  have HT := Lib.hid htr
  have HA := Lib.hid hat
  clear htr hat hsz hgt hct hm hm1
  go_enter Tryz.func19, Tryz.ntmps19
  go_wp2_with fail
  refine HT.out.mono ?_
  rintro e w1 ⟨rfl, hb1⟩
  have HB1 := Lib.hid hb1
  clear hb1
  go_wp2_with fail
  go_region_held3 (fun _ => True) (trivial) (first
    | (go_simp; go_at_call 45; refine (units_any _).mono ?_; rintro e w2 ⟨rfl, hb2, hm2⟩; have hlk := look_units w1.heap.size 109 1000000 w2 hm2 3 rfl)
    | fail)
  all_goals
    have HB2 := Lib.hid (HB1.out.trans (Below.mono (below_of_drew hb2) HB1.out.size))
    clear hb2 hm2 hlk hix
    go_wp2_with fail
    refine (HA.out _).mono ?_
    rintro e w3 ⟨rfl, t, rfl⟩
    have HB3 := Lib.hid (HB2.out.trans ((Lib.bytesWorld_below w2 5 t).mono HB2.out.size))
    go_wp2
    go_ret2
    exact ⟨by rw [Int.mul_one]; rfl, HB3.out⟩

/-- A letter of a unit, and its milliseconds. -/
def unitL : List (UInt8 × Int) := [(72, 3600000), (77, 60000), (83, 1000), (109, 1)]
theorem untimeout_any (n : Nat) (hn : n ≤ 99999999) (c : UInt8) (q : Int) (hc : (c, q) ∈ unitL) (w : World) : Calls Tryz.prog 19 #[.string (tmT n c)] w (TmPost ((n : Int) * q) w) := by
  simp only [unitL, List.mem_cons, List.not_mem_nil, or_false, Prod.mk.injEq] at hc
  rcases hc with ⟨rfl, rfl⟩ | ⟨rfl, rfl⟩ | ⟨rfl, rfl⟩ | ⟨rfl, rfl⟩
  · exact untimeout_H n hn w
  · exact untimeout_M n hn w
  · exact untimeout_S n hn w
  · exact untimeout_m n hn w
end Go.Proofs.YtoafmhbgbofgoaaGreatDoor
