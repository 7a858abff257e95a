/-
  Contract: jpb.Unbase64 at texts of the 64 letters that say whole bytes.
-/
import Derived.Test.YtoafmhbgbofgoaaGreatDoorRn2
import Derived.Test.YtoafmhbgbofgoaaGreatDoorBa
import Derived.Lib.TrimByte
namespace Go.Own.B64
theorem not_eq : (61 : UInt8) ∉ ltrs := by decide
theorem not_dash : (45 : UInt8) ∉ ltrs ∧ (95 : UInt8) ∉ ltrs := by decide
theorem ix_lt : ∀ k < 64, Lib.indexByte ltrs (lt k) = (k : Int) := by decide +kernel
theorem mem_lt {c : UInt8} (h : c ∈ ltrs) : ∃ k, k < 64 ∧ c = lt k := by
  obtain ⟨k, hk, e⟩ := List.mem_iff_getElem.1 h
  refine ⟨k, hk, ?_⟩
  unfold lt
  rw [List.getD, List.getElem?_eq_getElem hk, ← e]; rfl
theorem dropWhile_rep (c : UInt8) (l : List UInt8) (h : c ∉ l) : ∀ n, (List.replicate n c ++ l).dropWhile (· == c) = l
  | 0 => by
    rw [List.replicate_zero, List.nil_append]
    cases l with
    | nil => rfl
    | cons x l => rw [List.dropWhile_cons, if_neg (by intro e; exact h (by simp at e; rw [e]; exact List.mem_cons_self))]
  | n + 1 => by
    rw [List.replicate_succ, List.cons_append, List.dropWhile_cons, if_pos (by simp)]
    exact dropWhile_rep c l h n
theorem trim_rep (c : UInt8) (l : List UInt8) (n : Nat) (h : c ∉ l) : Lib.trimRightB (l ++ List.replicate n c) c = l := by
  unfold Lib.trimRightB
  rw [List.reverse_append, List.reverse_replicate, dropWhile_rep c _ (by simpa using h), List.reverse_reverse]
theorem trim_b64p (l : List UInt8) : Lib.trimRightB (b64p l) 61 = b64 l := trim_rep 61 _ _ fun h => not_eq (b64_mem l _ h)
theorem trim_none (l : List UInt8) (h : ∀ c ∈ l, c ∈ ltrs) : Lib.trimRightB l 61 = l := by
  have := trim_rep 61 l 0 (fun hh => not_eq (h _ hh))
  simpa using this
end Go.Own.B64
namespace Go.Proofs.YtoafmhbgbofgoaaGreatDoor
open Go.RowKit Go.Own Go.Own.B64
theorem ofInt_i64 (a : Nat) (ha : a < 9223372036854775808) : (BitVec.ofInt 64 (a : Int)).toNat = a := by
  rw [BitVec.ofInt_natCast, BitVec.toNat_ofNat]; exact Nat.mod_eq_of_lt (by omega)
theorem i64_or_nat (a b : Nat) (ha : a < 9223372036854775808) (hb : b < 9223372036854775808) : bits .or .i64 (a : Int) (b : Int) = ((a ||| b : Nat) : Int) := by
  have hx : a ||| b < 2 ^ 63 := Nat.or_lt_two_pow (by omega) (by omega)
  show IntKind.i64.wrap ((BitVec.ofInt 64 (a : Int) ||| BitVec.ofInt 64 (b : Int)).toNat : Int) = _
  rw [BitVec.toNat_or, ofInt_i64 a ha, ofInt_i64 b hb, IntKind.wrap_i64]
  omega
theorem i64_and_mask (X i M : Nat) (hX : X < 9223372036854775808) (hM : M = 2 ^ i - 1) (hi : M < 9223372036854775808) : bits .and .i64 (X : Int) (M : Int) = ((X % 2 ^ i : Nat) : Int) := by
  show IntKind.i64.wrap ((BitVec.ofInt 64 (X : Int) &&& BitVec.ofInt 64 (M : Int)).toNat : Int) = _
  rw [BitVec.toNat_and, ofInt_i64 X hX, ofInt_i64 M hi, hM, Nat.and_two_pow_sub_one_eq_mod, IntKind.wrap_i64]
  have := Nat.mod_le X (2 ^ i)
  omega
theorem byte_nat (n : Nat) (h : n < 256) : ((UInt8.ofNat n).toNat : Int) = (n : Int) := by
  rw [UInt8.toNat_ofNat']; omega
theorem or64 (h k : Nat) (hh : h < 64) (hk : k < 64) : bits .or .i64 ((h : Int) * 64) (k : Int) = ((h * 64 + k : Nat) : Int) := by
  rw [show (h : Int) * 64 = ((h * 64 : Nat) : Int) by omega, i64_or_nat _ _ (by omega) (by omega), show h * 64 = 2 ^ 6 * h by omega, or_lo 6 h k (by omega)]
def UbPost (l : List UInt8) (w : World) (e : Ending) (w' : World) : Prop := ∃ A c, e = .returned (.tuple #[.slice A l.length c, .nilIface]) ∧ Ow w' w.heap.size 5 (.slice A l.length c) l.length l ∧ Below w.heap.size w w'
set_option maxHeartbeats 4000000 in
set_option maxRecDepth 100000 in
theorem unbase64_any (s : ByteArray) (l : List UInt8) (w : World) (hm : ∀ c ∈ s.data.toList, c ∈ ltrs) (hu : ub 0 0 s.data.toList = some l) (h4 : s.size % 4 ≠ 1) (hs : s.size ≤ 1000000) :
    Calls Tryz.prog 60 #[.string s] w (UbPost l w) := by
  have htr : Calls Tryz.prog 52 #[.string s, .string ⟨#[61]⟩] w fun e w' => e = .returned (.string s) ∧ w = w' := by
    refine (Tryz.strings_TrimRight_one s 61 (by decide) w (by omega)).mono fun e w' h => ⟨?_, h.2.symm⟩
    rw [h.1, trim_none _ hm]
  have HTR := Lib.hid htr
  have HM := Lib.hid hm
  have HU := Lib.hid hu
  have h4' : ((s.size : Int) % 4 == 1) = false := by
    rw [beq_eq_false_iff_ne]; omega
  clear htr hm hu h4
  go_enter Tryz.func60, Tryz.ntmps60
  go_wp2_with fail
  refine HTR.out.mono ?_
  rintro e w' ⟨rfl, rfl⟩
  go_wp2_with fail
  have hS : Sc4 (w.alloc (.cells #[.string ⟨#[45]⟩, .string ⟨#[43]⟩, .string ⟨#[95]⟩, .string ⟨#[47]⟩] 9)) w.heap.size := by
    have h := Blk.new w 9 #[.string ⟨#[45]⟩, .string ⟨#[43]⟩, .string ⟨#[95]⟩, .string ⟨#[47]⟩]
    exact ⟨h.cell 0, h.cell 1, h.cell 2, h.cell 3, h.lt⟩
  refine (newReplacer_any w.heap.size _ hS).mono ?_
  rintro e w1 ⟨rb, g, cap, rfl, hrb, hrp, hb⟩
  have HB1 := Lib.hid (((Below.refl w.heap.size w).alloc (Nat.le_refl _) (.cells #[.string ⟨#[45]⟩, .string ⟨#[43]⟩, .string ⟨#[95]⟩, .string ⟨#[47]⟩] 9)).trans (hb.mono (by simp)))
  have hrb2 : w.heap.size ≤ rb := by have : (w.alloc (.cells #[.string ⟨#[45]⟩, .string ⟨#[43]⟩, .string ⟨#[95]⟩, .string ⟨#[47]⟩] 9)).heap.size = w.heap.size + 1 := by simp
                                     omega
  have HRP := Lib.hid hrp
  clear hrp hb hrb hS
  go_wp2_with fail
  refine (replace_any rb g cap s _ HRP.out (by omega) (fun c hc => ⟨fun e => not_dash.1 (e ▸ HM.out c hc), fun e => not_dash.2 (e ▸ HM.out c hc)⟩)).mono ?_
  rintro e w2 ⟨rfl, hg2⟩
  have HB2 := Lib.hid (HB1.out.grown hg2 HB1.out.size (fun r e => by cases e; exact hrb2))
  clear hg2 HRP HB1 hrb2
  go_wp2_with fail
  go_loopw [42, 6, 7, 8] (fun i o h m wr => ∃ (k hv mv q : Nat) (done r : List UInt8), k ≤ s.size ∧ i = .int .i64 (k : Int) ∧ h = .int .i64 (hv : Int) ∧ m = .int .i64 (mv : Int) ∧ (mv = 0 ∨ mv = 2 ∨ mv = 4 ∨ mv = 6) ∧ hv < 2 ^ mv ∧ Hid (Ow wr w.heap.size 5 o q done ∧ Below w.heap.size w wr ∧ q ≤ k ∧ ub hv mv (s.data.toList.drop k) = some r ∧ done ++ r = l)) (fun i _ _ _ _ => s.size - (intOf i).toNat)
  case atStart => exact ⟨0, 0, 0, 0, [], l, Nat.zero_le _, rfl, rfl, rfl, .inl rfl, by decide, Lib.hid ⟨⟨rfl, .inl ⟨rfl, rfl⟩⟩, HB2.out, Nat.le_refl _, HU.out, rfl⟩⟩
  case round =>
    obtain ⟨k, hv, mv, q, done, r, hk, rfl, rfl, rfl, hmv, hhv, hh⟩ := hrel
    by_cases hlt : k < s.size
    · have hl2 : k < s.data.toList.length := by rw [← Lib.size_eq]; exact hlt
      have hi0 := idx_str (P := Tryz.prog) Tryz.underlying9 s k (k : Int) rfl hlt
      have hgd : s.data.toList.getD k 0 = s.data.toList[k] := by rw [List.getD, List.getElem?_eq_getElem hl2]; rfl
      obtain ⟨kk, hkk, hck⟩ := mem_lt (HM.out _ (List.getElem_mem hl2))
      have HDR := Lib.hid (show s.data.toList.drop k = lt kk :: s.data.toList.drop (k + 1) from by rw [List.drop_eq_getElem_cons hl2, hck])
      rw [hgd, hck] at hi0
      have HIX := Lib.hid (fun W => (show Calls Tryz.prog 79 #[.string ⟨#[65, 66, 67, 68, 69, 70, 71, 72, 73, 74, 75, 76, 77, 78, 79, 80, 81, 82, 83, 84, 85, 86, 87, 88, 89, 90, 97, 98, 99, 100, 101, 102, 103, 104, 105, 106, 107, 108, 109, 110, 111, 112, 113, 114, 115, 116, 117, 118, 119, 120, 121, 122, 48, 49, 50, 51, 52, 53, 54, 55, 56, 57, 43, 47]⟩, .int .u8 ((lt kk).toNat : Int)] W fun e w' => e = .returned (.int .i64 (kk : Int)) ∧ W = w' from by
        refine (Tryz.strings_IndexByte _ ((lt kk).toNat : Int) W).mono fun e w' h => ⟨?_, h.2.symm⟩
        rw [h.1, ← ix_lt kk hkk]
        have e1 : ((lt kk).toNat : Int).toNat.toUInt8 = lt kk := by rw [Int.toNat_natCast]; exact UInt8.ofNat_toNat
        rw [e1]
        rfl))
      have HUB := Lib.hid (show ub hv mv (lt kk :: s.data.toList.drop (k + 1)) = some r from by rw [← HDR.out]; exact hh.out.2.2.2.1)
      generalize (lt kk).toNat = x at hi0 HIX
      clear hgd hck hl2
      rcases hmv with rfl | rfl | rfl | rfl
      · have hh0 : hv = 0 := by have : hv < 1 := hhv; omega
        subst hh0
        have HS := Lib.hid (show ub kk 6 (s.data.toList.drop (k + 1)) = some r from by
          have h := HUB.out
          rw [ub_lt _ _ _ _ hkk, if_neg (by omega)] at h
          simpa using h)
        have hor := or64 0 kk (by omega) hkk
        simp only [Nat.zero_mul, Nat.zero_add, Int.natCast_zero, Int.zero_mul] at hor
        have hk6 : kk < 2 ^ 6 := hkk
        clear HUB
        go_wp2_with (go_at_call 79; refine (HIX.out _).mono ?_; rintro e w' ⟨rfl, rfl⟩)
        go_roundw
        case rel => exact ⟨k + 1, kk, 6, q, done, r, by omega, by go_num, rfl, rfl, by omega, hk6, Lib.hid ⟨hh.out.1, hh.out.2.1, by have := hh.out.2.2.1; omega, HS.out, hh.out.2.2.2.2⟩⟩
        case measure => simp [intOf]; omega
      · have hh0 : hv < 64 := by have : hv < 4 := hhv; omega
        have hor := or64 hv kk hh0 hkk
        obtain ⟨X, hX⟩ : ∃ X, hv * 64 + kk = X := ⟨_, rfl⟩
        have hXl : X < 256 := by have : hv < 4 := hhv; omega
        obtain ⟨r', hr', hrr⟩ : ∃ r', ub 0 0 (s.data.toList.drop (k + 1)) = some r' ∧ r = UInt8.ofNat (X / 1) :: r' := by
          have h := HUB.out
          rw [ub_lt _ _ _ _ hkk, if_pos (by omega), hX] at h
          simp only [Nat.reduceAdd, Nat.reduceSub, Nat.reducePow, Nat.mod_one] at h
          rcases hr : ub 0 0 (s.data.toList.drop (k + 1)) with _ | r'
          · rw [hr] at h; cases h
          · rw [hr] at h
            exact ⟨r', rfl, (Option.some.inj h).symm⟩
        rw [hX] at hor
        have HS := Lib.hid (And.intro hr' hrr)
        have hand : bits .and .i64 (X : Int) 0 = ((0 : Nat) : Int) := (i64_and_mask X 0 0 (by omega) (by decide) (by decide)).trans (by omega)
        have HBY := Lib.hid (byte_nat (X / 1) (by omega))
        have hxn : 0 < 2 ^ 0 := by decide
        have hq1 : q ≤ 1000000 := by have := hh.out.2.2.1; omega
        clear HUB hr' hrr hX hh0
        go_wp2_with (first
          | (go_at_call 79; refine (HIX.out _).mono ?_; rintro e w' ⟨rfl, rfl⟩)
          | (at_builtin; refine wpList_app_any _ Gp.byteP rfl (.tmp 62) (.tmp 67) rfl w.heap.size _ q _ rfl (hh.out.1.alloc _) (wr.heap.size + 1) (some ⟨wr.heap.size, 0, none⟩) 1 1 [UInt8.ofNat (X / 1)] rfl (Rd.one _ _ _ _ (by rw [HBY.out]; omega)) (by omega) (by have := hh.out.2.1.size; simp; omega) ?_; intro A5 cap5 w6 ho6 hg6 hl6 hm6 hm7; have HO6 := Lib.hid ho6; have HG6 := Lib.hid ((hh.out.2.1.alloc hh.out.2.1.size _).grown hg6 (by have := hh.out.2.1.size; simp; omega) (fun g e => (hh.out.1.lt e).2)); clear ho6 hg6 hl6 hm6 hm7))
        go_roundw
        case rel => exact ⟨k + 1, 0, 0, q + 1, done ++ [UInt8.ofNat (X / 1)], r', by omega, by go_num, rfl, rfl, by omega, hxn, Lib.hid ⟨HO6.out, HG6.out, by have := hh.out.2.2.1; omega, HS.out.1, by rw [← hh.out.2.2.2.2, HS.out.2, List.append_assoc]; rfl⟩⟩
        case measure => simp [intOf]; omega
      · have hh0 : hv < 64 := by have : hv < 16 := hhv; omega
        have hor := or64 hv kk hh0 hkk
        obtain ⟨X, hX⟩ : ∃ X, hv * 64 + kk = X := ⟨_, rfl⟩
        have hXl : X < 1024 := by have : hv < 16 := hhv; omega
        obtain ⟨r', hr', hrr⟩ : ∃ r', ub (X % 4) 2 (s.data.toList.drop (k + 1)) = some r' ∧ r = UInt8.ofNat (X / 4) :: r' := by
          have h := HUB.out
          rw [ub_lt _ _ _ _ hkk, if_pos (by omega), hX] at h
          simp only [Nat.reduceAdd, Nat.reduceSub, Nat.reducePow] at h
          rcases hr : ub (X % 4) 2 (s.data.toList.drop (k + 1)) with _ | r'
          · rw [hr] at h; cases h
          · rw [hr] at h
            exact ⟨r', rfl, (Option.some.inj h).symm⟩
        rw [hX] at hor
        have HS := Lib.hid (And.intro hr' hrr)
        have hand : bits .and .i64 (X : Int) 3 = ((X % 4 : Nat) : Int) := i64_and_mask X 2 3 (by omega) (by decide) (by decide)
        have HBY := Lib.hid (byte_nat (X / 4) (by omega))
        have hxn : X % 4 < 2 ^ 2 := by show _ < 4; omega
        have hq1 : q ≤ 1000000 := by have := hh.out.2.2.1; omega
        clear HUB hr' hrr hX hh0
        go_wp2_with (first
          | (go_at_call 79; refine (HIX.out _).mono ?_; rintro e w' ⟨rfl, rfl⟩)
          | (at_builtin; refine wpList_app_any _ Gp.byteP rfl (.tmp 62) (.tmp 67) rfl w.heap.size _ q _ rfl (hh.out.1.alloc _) (wr.heap.size + 1) (some ⟨wr.heap.size, 0, none⟩) 1 1 [UInt8.ofNat (X / 4)] rfl (Rd.one _ _ _ _ (by rw [HBY.out]; omega)) (by omega) (by have := hh.out.2.1.size; simp; omega) ?_; intro A5 cap5 w6 ho6 hg6 hl6 hm6 hm7; have HO6 := Lib.hid ho6; have HG6 := Lib.hid ((hh.out.2.1.alloc hh.out.2.1.size _).grown hg6 (by have := hh.out.2.1.size; simp; omega) (fun g e => (hh.out.1.lt e).2)); clear ho6 hg6 hl6 hm6 hm7))
        go_roundw
        case rel => exact ⟨k + 1, X % 4, 2, q + 1, done ++ [UInt8.ofNat (X / 4)], r', by omega, by go_num, rfl, rfl, by omega, hxn, Lib.hid ⟨HO6.out, HG6.out, by have := hh.out.2.2.1; omega, HS.out.1, by rw [← hh.out.2.2.2.2, HS.out.2, List.append_assoc]; rfl⟩⟩
        case measure => simp [intOf]; omega
      · have hh0 : hv < 64 := by have : hv < 64 := hhv; omega
        have hor := or64 hv kk hh0 hkk
        obtain ⟨X, hX⟩ : ∃ X, hv * 64 + kk = X := ⟨_, rfl⟩
        have hXl : X < 4096 := by have : hv < 64 := hhv; omega
        obtain ⟨r', hr', hrr⟩ : ∃ r', ub (X % 16) 4 (s.data.toList.drop (k + 1)) = some r' ∧ r = UInt8.ofNat (X / 16) :: r' := by
          have h := HUB.out
          rw [ub_lt _ _ _ _ hkk, if_pos (by omega), hX] at h
          simp only [Nat.reduceAdd, Nat.reduceSub, Nat.reducePow] at h
          rcases hr : ub (X % 16) 4 (s.data.toList.drop (k + 1)) with _ | r'
          · rw [hr] at h; cases h
          · rw [hr] at h
            exact ⟨r', rfl, (Option.some.inj h).symm⟩
        rw [hX] at hor
        have HS := Lib.hid (And.intro hr' hrr)
        have hand : bits .and .i64 (X : Int) 15 = ((X % 16 : Nat) : Int) := i64_and_mask X 4 15 (by omega) (by decide) (by decide)
        have HBY := Lib.hid (byte_nat (X / 16) (by omega))
        have hxn : X % 16 < 2 ^ 4 := by show _ < 16; omega
        have hq1 : q ≤ 1000000 := by have := hh.out.2.2.1; omega
        clear HUB hr' hrr hX hh0
        go_wp2_with (first
          | (go_at_call 79; refine (HIX.out _).mono ?_; rintro e w' ⟨rfl, rfl⟩)
          | (at_builtin; refine wpList_app_any _ Gp.byteP rfl (.tmp 62) (.tmp 67) rfl w.heap.size _ q _ rfl (hh.out.1.alloc _) (wr.heap.size + 1) (some ⟨wr.heap.size, 0, none⟩) 1 1 [UInt8.ofNat (X / 16)] rfl (Rd.one _ _ _ _ (by rw [HBY.out]; omega)) (by omega) (by have := hh.out.2.1.size; simp; omega) ?_; intro A5 cap5 w6 ho6 hg6 hl6 hm6 hm7; have HO6 := Lib.hid ho6; have HG6 := Lib.hid ((hh.out.2.1.alloc hh.out.2.1.size _).grown hg6 (by have := hh.out.2.1.size; simp; omega) (fun g e => (hh.out.1.lt e).2)); clear ho6 hg6 hl6 hm6 hm7))
        go_roundw
        case rel => exact ⟨k + 1, X % 16, 4, q + 1, done ++ [UInt8.ofNat (X / 16)], r', by omega, by go_num, rfl, rfl, by omega, hxn, Lib.hid ⟨HO6.out, HG6.out, by have := hh.out.2.2.1; omega, HS.out.1, by rw [← hh.out.2.2.2.2, HS.out.2, List.append_assoc]; rfl⟩⟩
        case measure => simp [intOf]; omega
    · have hke : k = s.size := by omega
      have hur := hh.out.2.2.2.1
      rw [List.drop_eq_nil_of_le (by rw [← Lib.size_eq]; omega), ub] at hur
      have hv0 : hv = 0 := by
        by_cases e : hv = 0
        · exact e
        · rw [if_neg e] at hur; cases hur
      subst hv0
      rw [if_pos rfl] at hur
      obtain rfl := (Option.some.inj hur).symm
      have HF := Lib.hid (show done = l from by have := hh.out.2.2.2.2; rwa [List.append_nil] at this)
      obtain ⟨Ao, co, hov, _, _, _⟩ := hh.out.1.form
      subst hov
      have HO := Lib.hid hh.out.1
      have HB := Lib.hid hh.out.2.1
      clear hh hur hke hhv
      go_wp2
      go_ret2
      have hq := HO.out.len
      rw [HF.out] at hq
      subst hq
      have ho := HO.out
      rw [HF.out] at ho
      exact ⟨Ao, co, rfl, ho, HB.out⟩
end Go.Proofs.YtoafmhbgbofgoaaGreatDoor
